/-
  What a region that draws its order has been checked for.
-/
import Derived.Test.YtihflniehaaakaaGreatDoorEvOps
namespace Go.Proofs.YtihflniehaaakaaGreatDoor
set_option linter.unusedVariables false
set_option linter.unusedSimpArgs false
namespace Ev
variable [Opq]
set_option linter.unusedSectionVars false
section
variable {P : Program} {T : Ty} {m N : Nat}

theorem bit_eq (a t : Nat) : bit a t = a.testBit t := by
  rw [Nat.testBit_eq_decide_div_mod_eq]
  unfold bit
  rw [nmod, nshr, Bool.eq_iff_iff]
  simp
theorem bit_add (a i t : Nat) : bit (addBit a i) t = (bit a t || decide (t = i)) := by
  rw [bit_eq, bit_eq]
  show (a ||| (1 <<< i)).testBit t = _
  rw [Nat.testBit_or, Nat.one_shiftLeft, Nat.testBit_two_pow]
  congr 1
  exact decide_eq_decide.2 ⟨fun h => h.symm, fun h => h.symm⟩
theorem bit_lor (a b t : Nat) : bit (Nat.lor a b) t = (bit a t || bit b t) := by
  rw [bit_eq, bit_eq, bit_eq]
  exact Nat.testBit_or a b t
theorem bit_zero (t : Nat) : bit 0 t = false := by rw [bit_eq]; exact Nat.zero_testBit t
theorem bit_full (n t : Nat) : bit (Nat.sub (Nat.pow 2 n) 1) t = decide (t < n) := by
  rw [bit_eq]
  exact Nat.testBit_two_pow_sub_one n t
/-- One set of bits lies in another. -/
theorem land_sub {a b : Nat} (h : Nat.beq (Nat.land a b) a = true) {t : Nat} (ht : bit a t = true) : bit b t = true := by
  have h : a &&& b = a := by simpa using h
  rw [bit_eq] at ht ⊢
  rw [← h, Nat.testBit_and] at ht
  simp only [Bool.and_eq_true] at ht
  exact ht.2
theorem mem_beforeOf {bs : List Nat} {o : Oper} {j : Nat} (h : bit (beforeOf bs o) j = true) : ∃ e ∈ o.after.toList, bindsE e = true ∧ (j = e.on ∨ bit (bitsAt bs e.on) j = true) := by
  have gen : ∀ (l : List Edge) (s : Nat), bit (l.foldl (fun s e => Bool.rec (motive := fun _ => Nat) s (Nat.lor s (addBit (bitsAt bs e.on) e.on)) (bindsE e)) s) j = true →
      bit s j = true ∨ ∃ e ∈ l, bindsE e = true ∧ (j = e.on ∨ bit (bitsAt bs e.on) j = true) := by
    intro l
    induction l with
    | nil => intro s h; exact .inl h
    | cons e l ih =>
      intro s h
      rw [List.foldl_cons] at h
      rcases ih _ h with k | ⟨e', k1, k2⟩
      · cases hb : bindsE e with
        | false => rw [hb] at k; exact .inl k
        | true =>
          rw [hb] at k
          have k : bit (Nat.lor s (addBit (bitsAt bs e.on) e.on)) j = true := k
          rw [bit_lor, bit_add] at k
          simp only [Bool.or_eq_true, decide_eq_true_eq] at k
          rcases k with k | k | k
          · exact .inl k
          · exact .inr ⟨e, List.mem_cons_self, hb, .inr k⟩
          · exact .inr ⟨e, List.mem_cons_self, hb, .inl k⟩
      · exact .inr ⟨e', List.mem_cons_of_mem _ k1, k2⟩
  rcases gen o.after.toList 0 h with k | k
  · rw [bit_zero] at k; cases k
  · exact k
theorem binds_eq (e : Edge) : Region.binds .any e = bindsE e := by
  unfold Region.binds bindsE
  cases e.ground <;> rfl
/-- What has been checked of the edges and the names. -/
structure Static (T : Ty) (ops : Array Oper) (bs : List Nat) : Prop where
  back : ∀ (i : Nat) o, ops[i]? = some o → ∀ e ∈ o.after.toList, bindsE e = true → e.on < i
  before : ∀ (i : Nat) o, ops[i]? = some o → ∀ j, bit (bitsAt bs i) j = true → ∃ e ∈ o.after.toList, bindsE e = true ∧ (j = e.on ∨ bit (bitsAt bs e.on) j = true)
  names : ∀ (i j : Nat) o p d, i ≠ j → ops[i]? = some o → ops[j]? = some p → p.dst = some d → d ∈ namesOf T ops o → (bit (bitsAt bs i) j = true ∨ bit (bitsAt bs j) i = true) ∧ o.dst ≠ some d
theorem mem_zipIdx {ops : Array Oper} {i : Nat} {o : Oper} (h : ops[i]? = some o) : (o, i) ∈ ops.toList.zipIdx := by
  rw [List.mem_zipIdx_iff_getElem?]
  simpa using h
theorem static_ok {ops : Array Oper} {bs : List Nat} (h : regionOk T ops bs = true) : Static T ops bs := by
  unfold regionOk at h
  simp only [List.all_eq_true] at h
  have parts : ∀ (i : Nat) o, ops[i]? = some o → (bitsAt bs i = beforeOf bs o ∧ ∀ e ∈ o.after.toList, bindsE e = true → e.on < i) ∧
      ∀ (j : Nat) p d, i ≠ j → ops[j]? = some p → p.dst = some d → d ∈ namesOf T ops o → (bit (bitsAt bs i) j = true ∨ bit (bitsAt bs j) i = true) ∧ o.dst ≠ some d := by
    intro i o ho
    have k := h (o, i) (mem_zipIdx ho)
    simp only [Bool.and_eq_true, List.all_eq_true, Bool.or_eq_true] at k
    obtain ⟨⟨k1, k2⟩, k3⟩ := k
    refine ⟨⟨by simpa using k1, fun e he hb => ?_⟩, fun j p d hij hp hd hn => ?_⟩
    · rcases k2 e he with q | q
      · rw [hb] at q; cases q
      · simpa using q
    · have q := k3 (p, j) (mem_zipIdx hp)
      rcases q with q | q
      · exact absurd (by simpa using q) hij
      · simp only [hd] at q
        have ha : (namesOf T ops o).any (Nat.beq d) = true := by
          rw [List.any_eq_true]
          exact ⟨d, hn, by simp⟩
        rw [ha] at q
        simp only [Bool.not_true, Bool.false_or, Bool.and_eq_true, Bool.or_eq_true] at q
        refine ⟨q.1, fun e => ?_⟩
        have q2 := q.2
        rw [e] at q2
        simp at q2
  exact ⟨fun i o ho => (parts i o ho).1.2, fun i o ho j hj => by rw [(parts i o ho).1.1] at hj; exact mem_beforeOf hj, fun i j o p d hij ho hp hd hn => (parts i o ho).2 j p d hij hp hd hn⟩
theorem ordOk_cons (bs : List Nat) (isE : Nat → Bool) (full i : Nat) (l : List Nat) (done em : Nat) :
    ordOk bs isE full (i :: l) done em = (Nat.beq (Nat.land (bitsAt bs i) done) (bitsAt bs i) && !bit done i && Nat.beq (Nat.land em (bitsAt bs i)) em && ordOk bs isE full l (addBit done i) (Bool.rec (motive := fun _ => Nat) em (addBit em i) (isE i))) := rfl
theorem ordOk_split {bs : List Nat} {isE : Nat → Bool} {full : Nat} : ∀ {l : List Nat} {done em : Nat}, ordOk bs isE full l done em = true →
    (∀ pre i post, l = pre ++ i :: post → (∀ j, bit (bitsAt bs i) j = true → bit done j = true ∨ j ∈ pre) ∧ bit done i = false ∧ i ∉ pre ∧ (∀ j ∈ pre, isE j = true → bit (bitsAt bs i) j = true) ∧ (∀ j, bit em j = true → bit (bitsAt bs i) j = true)) ∧
    ∀ t, bit full t = true → bit done t = true ∨ t ∈ l
  | [], done, em, h => by
    refine ⟨fun pre i post e => by simp at e, fun t ht => .inl ?_⟩
    have h : done = full := by
      have h' : Nat.beq done full = true := h
      simpa using h'
    rw [h]
    exact ht
  | x :: l, done, em, h => by
    rw [ordOk_cons] at h
    simp only [Bool.and_eq_true] at h
    obtain ⟨⟨⟨h1, h2⟩, h3⟩, h4⟩ := h
    obtain ⟨k1, k2⟩ := ordOk_split h4
    refine ⟨fun pre i post e => ?_, fun t ht => ?_⟩
    · cases pre with
      | nil =>
        simp only [List.nil_append, List.cons.injEq] at e
        obtain ⟨rfl, rfl⟩ := e
        exact ⟨fun j hj => .inl (land_sub h1 hj), by simpa using h2, by simp, by simp, fun j hj => land_sub h3 hj⟩
      | cons y pre =>
        simp only [List.cons_append, List.cons.injEq] at e
        obtain ⟨rfl, rfl⟩ := e
        obtain ⟨m1, m2, m3, m4, m5⟩ := k1 pre i post rfl
        rw [bit_add] at m2
        simp only [Bool.or_eq_false_iff, decide_eq_false_iff_not] at m2
        refine ⟨fun j hj => ?_, m2.1, ?_, fun j hj hE => ?_, fun j hj => ?_⟩
        · rcases m1 j hj with q | q
          · rw [bit_add] at q
            simp only [Bool.or_eq_true, decide_eq_true_eq] at q
            rcases q with q | q
            · exact .inl q
            · exact .inr (q ▸ List.mem_cons_self)
          · exact .inr (List.mem_cons_of_mem _ q)
        · intro q
          cases q with
          | head => exact m2.2 rfl
          | tail _ q => exact m3 q
        · cases hj with
          | head =>
            refine m5 _ ?_
            rw [hE]
            show bit (addBit em x) x = true
            rw [bit_add]
            simp
          | tail _ hj => exact m4 j hj hE
        · refine m5 j ?_
          cases hE : isE x with
          | false => exact hj
          | true =>
            show bit (addBit em x) j = true
            rw [bit_add, hj]
            rfl
    · rcases k2 t ht with q | q
      · rw [bit_add] at q
        simp only [Bool.or_eq_true, decide_eq_true_eq] at q
        rcases q with q | q
        · exact .inl q
        · exact .inr (q ▸ List.mem_cons_self)
      · exact .inr (List.mem_cons_of_mem _ q)
/-- What has been checked of the order. -/
structure Order (ops : Array Oper) (cl : List COper) (bs : List Nat) (ord : List Nat) : Prop where
  pre : ∀ pre i post, ord = pre ++ i :: post → (∀ j, bit (bitsAt bs i) j = true → j ∈ pre) ∧ i ∉ pre ∧ ∀ j ∈ pre, isEAt cl j = true → bit (bitsAt bs i) j = true
  all : ∀ i, i < ops.size → i ∈ ord
theorem compD_at {cl l : List COper} {ops : Array Oper} (h : compD T cl ops = some l) : ∃ ord, Static T ops (befores ops.toList) ∧ Order ops cl (befores ops.toList) ord ∧
    setLH cl (fun i => lenL (((List.range ops.size).filter (isEAt cl)).filter fun e => !bit (bitsAt (befores ops.toList) e) i)) ord 0 = some l := by
  obtain ⟨h1, h2⟩ := oif_some.1 (show oif (regionOk T ops (befores ops.toList) && ordOk (befores ops.toList) (isEAt cl) (Nat.sub (Nat.pow 2 ops.size) 1) (levels (befores ops.toList) (isEAt cl) ((List.range ops.size).filter (isEAt cl)) (List.range ops.size) (lenL ((List.range ops.size).filter (isEAt cl)))) 0 0) _ = some l from h)
  simp only [Bool.and_eq_true] at h1
  obtain ⟨k1, k2⟩ := ordOk_split h1.2
  refine ⟨_, static_ok h1.1, ⟨fun pre i post e => ?_, fun i hi => ?_⟩, h2⟩
  · obtain ⟨m1, m2, m3, m4, m5⟩ := k1 pre i post e
    refine ⟨fun j hj => ?_, m3, m4⟩
    rcases m1 j hj with q | q
    · rw [bit_zero] at q; cases q
    · exact q
  · rcases k2 i (by rw [bit_full]; simpa using hi) with q | q
    · rw [bit_zero] at q; cases q
    · exact q
theorem compD_ok {cl l : List COper} {ops : Array Oper} (h : compD T cl ops = some l) : ∃ bs ord, Static T ops bs ∧ Order ops cl bs ord ∧
    setLH cl (fun i => lenL (((List.range ops.size).filter (isEAt cl)).filter fun e => !bit (bitsAt bs e) i)) ord 0 = some l := by
  obtain ⟨ord, h1, h2, h3⟩ := compD_at h
  exact ⟨_, ord, h1, h2, h3⟩
theorem Order.nodup {ops : Array Oper} {cl : List COper} {bs ord : List Nat} (h : Order ops cl bs ord) {A B C : List Nat} {i : Nat} (e : ord = A ++ i :: B ++ C) : i ∉ A ∧ i ∉ B ∧ i ∉ C := by
  have h1 : i ∉ A := (h.pre A i (B ++ C) (by rw [e]; simp)).2.1
  refine ⟨h1, fun hb => ?_, fun hc => ?_⟩
  · obtain ⟨s, t, rfl⟩ := List.append_of_mem hb
    exact (h.pre (A ++ i :: s) i (t ++ C) (by rw [e]; simp)).2.1 (by simp)
  · obtain ⟨s, t, rfl⟩ := List.append_of_mem hc
    exact (h.pre (A ++ i :: B ++ s) i t (by rw [e]; simp)).2.1 (by simp)
end
end Ev
end Go.Proofs.YtihflniehaaakaaGreatDoor
namespace Go.Proofs.YtihflniehaaakaaGreatDoor
set_option linter.unusedVariables false
set_option linter.unusedSimpArgs false
namespace Ev
variable [Opq]
set_option linter.unusedSectionVars false
section
variable {P : Program} {T : Ty} {m N : Nat}

/-- One step: the operation's value, the state behind it. -/
structure Step (call : CallT) (co : COper) (s : St) (v : V) (s' : St) : Prop where
  f : s'.f = co.dst.put s.f v
  hs : s'.hs = if isE co.op = true then s.h :: s.hs else s.hs
  main : (guardOk s.f co.guard = some false ∧ v = undefV ∧ s'.h = s.h ∧ s'.cs = s.cs) ∨
    ∃ vs, guardOk s.f co.guard = some true ∧ evs s.f co.args = some vs ∧ co.op.run call vs s.h = some (v, s'.h) ∧ (∀ q, co.op = .r q → s'.cs = ⟨q, vs, v, co.lo, co.hi⟩ :: s.cs) ∧ ((∀ q, co.op ≠ .r q) → s'.cs = s.cs)
theorem step_of {call : CallT} {co : COper} {s s' : St} (h : co.runD call s = some s') : ∃ v, Step call co s v s' := by
  obtain ⟨b, h1, h2⟩ := ob_some.1 (show ob (guardOk s.f co.guard) _ = some s' from h)
  have hhs : ∀ (a b : List H), (Bool.rec (motive := fun _ => List H) a b (isE co.op)) = if isE co.op = true then b else a := fun a b => brec_eq _ _ _
  cases b with
  | false =>
    cases h2
    exact ⟨undefV, rfl, hhs _ _, .inl ⟨h1, rfl, rfl, rfl⟩⟩
  | true =>
    obtain ⟨vs, h3, h4⟩ := ob_some.1 h2
    obtain ⟨r, h5, h6⟩ := ob_some.1 h4
    cases h6
    refine ⟨r.1, rfl, hhs _ _, .inr ⟨vs, h1, h3, h5, fun q hq => ?_, fun hq => ?_⟩⟩
    · rw [hq]
    · cases hc : co.op with
      | r q => exact absurd hc (hq q)
      | _ => rfl
structure Ent where
  i : Nat
  k : Nat
  v : V
  s : St
inductive Trace (call : CallT) (cl : List COper) (hi : Nat → Nat) : Nat → St → List Ent → St → Prop
  | nil {k : Nat} {s : St} : Trace call cl hi k s [] s
  | cons {i k : Nat} {s s' sn : St} {c : COper} {v : V} {tr : List Ent} (hc : cl[i]? = some c) (st : Step call { c with lo := k, hi := hi i } s v s')
      (t : Trace call cl hi (if isE c.op = true then k + 1 else k) s' tr sn) : Trace call cl hi k s (⟨i, k, v, s⟩ :: tr) sn
theorem setLH_cons (cl : List COper) (hi : Nat → Nat) (i : Nat) (l : List Nat) (k : Nat) : setLH cl hi (i :: l) k = ob (nthL cl i) fun c => ob (setLH cl hi l (if isE c.op = true then k + 1 else k)) fun r => some ({ c with lo := k, hi := hi i } :: r) := by
  show ob (nthL cl i) (fun c => ob (setLH cl hi l (Bool.rec (motive := fun _ => Nat) k (Nat.succ k) (isE c.op))) fun r => some ({ c with lo := k, hi := hi i } :: r)) = _
  simp only [brec_eq, Nat.succ_eq_add_one]
theorem trace_of {call : CallT} {cl : List COper} {hi : Nat → Nat} : ∀ {ord : List Nat} {k : Nat} {l : List COper} {s sn : St}, setLH cl hi ord k = some l → runOpsD call l s = some sn → ∃ tr, Trace call cl hi k s tr sn ∧ tr.map (·.i) = ord
  | [], k, l, s, sn, h, hr => by
    cases h
    cases hr
    exact ⟨[], .nil, rfl⟩
  | i :: ord, k, l, s, sn, h, hr => by
    rw [setLH_cons] at h
    obtain ⟨c, h1, h2⟩ := ob_some.1 h
    obtain ⟨r, h3, h4⟩ := ob_some.1 h2
    cases h4
    rw [nthL_eq] at h1
    obtain ⟨s', h5, h6⟩ := ob_some.1 (show ob (COper.runD call { c with lo := k, hi := hi i } s) (runOpsD call r) = some sn from hr)
    obtain ⟨v, hst⟩ := step_of h5
    obtain ⟨tr, k1, k2⟩ := trace_of h3 h6
    exact ⟨_, .cons h1 hst k1, by simp [k2]⟩
/-- How many operations write memory. -/
noncomputable def nE (cl : List COper) (l : List Ent) : Nat := (l.filter fun e => isEAt cl e.i).length
theorem isEAt_eq {cl : List COper} {i : Nat} {c : COper} (h : cl[i]? = some c) : isEAt cl i = isE c.op := by
  unfold isEAt
  rw [nthL_eq, h]
theorem Trace.split {call : CallT} {cl : List COper} {hi : Nat → Nat} : ∀ {A B : List Ent} {k : Nat} {s sn : St}, Trace call cl hi k s (A ++ B) sn → ∃ s', Trace call cl hi k s A s' ∧ Trace call cl hi (k + nE cl A) s' B sn
  | [], B, k, s, sn, h => ⟨s, .nil, h⟩
  | e :: A, B, k, s, sn, h => by
    cases h with
    | cons hc st t =>
      rename_i i s1 c v
      obtain ⟨s', k1, k2⟩ := Trace.split (A := A) t
      refine ⟨s', .cons hc st k1, ?_⟩
      have : (if isE c.op = true then k + 1 else k) + nE cl A = k + nE cl (⟨i, k, v, s⟩ :: A) := by
        unfold nE
        rw [List.filter_cons, isEAt_eq hc]
        split <;> simp <;> omega
      rw [← this]
      exact k2
theorem Trace.append {call : CallT} {cl : List COper} {hi : Nat → Nat} : ∀ {A B : List Ent} {k : Nat} {s s' sn : St}, Trace call cl hi k s A s' → Trace call cl hi (k + nE cl A) s' B sn → Trace call cl hi k s (A ++ B) sn
  | [], B, k, s, s', sn, h, h' => by cases h; exact h'
  | e :: A, B, k, s, s', sn, h, h' => by
    cases h with
    | cons hc st t =>
      rename_i i s1 c v
      have : (if isE c.op = true then k + 1 else k) + nE cl A = k + nE cl (⟨i, k, v, s⟩ :: A) := by
        unfold nE
        rw [List.filter_cons, isEAt_eq hc]
        split <;> simp <;> omega
      rw [← this] at h'
      exact .cons hc st (Trace.append t h')
theorem Trace.head {call : CallT} {cl : List COper} {hi : Nat → Nat} {k : Nat} {s sn : St} {e : Ent} {B : List Ent} (h : Trace call cl hi k s (e :: B) sn) : e.s = s ∧ e.k = k ∧ ∃ c s', cl[e.i]? = some c ∧ Step call { c with lo := k, hi := hi e.i } s e.v s' ∧ Trace call cl hi (if isE c.op = true then k + 1 else k) s' B sn := by
  cases h with
  | cons hc st t => exact ⟨rfl, rfl, _, _, hc, st, t⟩
/-- What the names hold behind a run. -/
theorem Trace.names {call : CallT} {ops : Array Oper} {cl : List COper} {hi : Nat → Nat} (hcl : ∀ (i : Nat) c, cl[i]? = some c → ∃ o, ops[i]? = some o ∧ Parts T m N ops o c) : ∀ {tr : List Ent} {k : Nat} {s sn : St}, Trace call cl hi k s tr sn →
    (∀ t, (∀ e ∈ tr, (ops[e.i]?).bind (·.dst) ≠ some t) → rdn m sn.f t = rdn m s.f t) ∧
    ∀ A e B, tr = A ++ e :: B → ∀ t, (ops[e.i]?).bind (·.dst) = some t → (∀ e' ∈ B, (ops[e'.i]?).bind (·.dst) ≠ some t) → rdn m sn.f t = some e.v
  | [], k, s, sn, h => by
    cases h
    exact ⟨fun _ _ => rfl, fun A e B h => by simp at h⟩
  | x :: tr, k, s, sn, h => by
    cases h with
    | cons hc st t =>
      rename_i i s' c v
      obtain ⟨o, ho, hp⟩ := hcl i c hc
      obtain ⟨k1, k2⟩ := Trace.names hcl t
      have hput : ∀ t, rdn m s'.f t = if o.dst = some t then some v else rdn m s.f t := fun t => by
        rw [st.f]
        exact rdn_put hp.dst s.f v t
      refine ⟨fun t ht => ?_, fun A e B he t hd hB => ?_⟩
      · rw [k1 t fun e he => ht e (List.mem_cons_of_mem _ he), hput, if_neg]
        have := ht _ List.mem_cons_self
        simp only [ho, Option.bind_some] at this
        exact this
      · cases A with
        | nil =>
          simp only [List.nil_append, List.cons.injEq] at he
          obtain ⟨rfl, rfl⟩ := he
          rw [k1 t hB, hput, if_pos]
          simp only [ho, Option.bind_some] at hd
          exact hd
        | cons y A =>
          simp only [List.cons_append, List.cons.injEq] at he
          exact k2 A e B he.2 t hd hB
/-- The memories before what writes. -/
theorem Trace.hs {call : CallT} {cl : List COper} {hi : Nat → Nat} : ∀ {tr : List Ent} {k : Nat} {s sn : St}, Trace call cl hi k s tr sn → sn.hs = ((tr.filter fun e => isEAt cl e.i).map (·.s.h)).reverse ++ s.hs
  | [], k, s, sn, h => by cases h; rfl
  | x :: tr, k, s, sn, h => by
    cases h with
    | cons hc st t =>
      rename_i i s' c v
      rw [Trace.hs t, st.hs, List.filter_cons, isEAt_eq hc]
      show _ ++ (if isE c.op = true then s.h :: s.hs else s.hs) = _
      by_cases hE : isE c.op = true
      · simp [hE]
      · simp [hE]
theorem Trace.cs {call : CallT} {cl : List COper} {hi : Nat → Nat} : ∀ {tr : List Ent} {k : Nat} {s sn : St}, Trace call cl hi k s tr sn → ∀ c ∈ s.cs, c ∈ sn.cs
  | [], k, s, sn, h => by cases h; exact fun _ h => h
  | x :: tr, k, s, sn, h => by
    cases h with
    | cons hc st t =>
      rename_i i s' c v
      intro q hq
      refine Trace.cs t q ?_
      rcases st.main with ⟨_, _, _, h4⟩ | ⟨vs, _, _, _, h4, h5⟩
      · rw [h4]; exact hq
      · cases hop : c.op with
        | r ro => rw [h4 ro hop]; exact List.mem_cons_of_mem _ hq
        | _ => rw [h5 (fun q e => by have e : c.op = .r q := e; rw [hop] at e; cases e)]; exact hq
theorem sameAllV {r : V → V → Bool} (hr : ∀ x y, r x y = true → x = y) : ∀ {a b : List V}, (List.rec (motive := fun _ => List V → Bool) (fun l => caseL l true fun _ _ => false)
        (fun u _ q l => caseL l false fun v tl => Bool.rec (motive := fun _ => Bool) false (q tl) (r u v)) a : List V → Bool) b = true → a = b
  | [], [], _ => rfl
  | [], _ :: _, h => by cases h
  | _ :: _, [], h => by cases h
  | u :: a, v :: b, h => by
    have h : Bool.rec (motive := fun _ => Bool) false ((List.rec (motive := fun _ => List V → Bool) (fun l => caseL l true fun _ _ => false)
        (fun u _ q l => caseL l false fun v tl => Bool.rec (motive := fun _ => Bool) false (q tl) (r u v)) a : List V → Bool) b) (r u v) = true := h
    rw [brec_eq] at h
    split at h
    · rename_i h1
      rw [hr _ _ h1, sameAllV hr h]
    · cases h
theorem sameV_eq : ∀ (n : Nat) (x y : V), sameV n x y = true → x = y
  | 0, x, y, h => by cases h
  | n + 1, x, y, h => by
    have ih := sameV_eq n
    cases x with
    | bool b => cases y with
      | bool c =>
        have h : beqB b c = true := h
        rw [beqB_eq] at h
        simp at h
        rw [h]
      | _ => cases h
    | int k a => cases y with
      | int k' a' =>
        have h : (eqK k k' && eqI a a') = true := h
        rw [eqI_eq, Bool.and_eq_true, eqK_eq] at h
        obtain ⟨h1, h2⟩ := h
        rw [h1, eq_of_beq h2]
      | _ => cases h
    | str a b => cases y with
      | str a' b' =>
        have h : Bool.rec (motive := fun _ => Bool) false (Nat.beq b b') (Nat.beq a a') = true := h
        rw [brec_eq] at h
        split at h
        · rename_i h1
          rw [Nat.eq_of_beq_eq_true h1, Nat.eq_of_beq_eq_true h]
        · cases h
      | _ => cases h
    | nilp => cases y with
      | nilp => rfl
      | _ => cases h
    | ptr a b => cases y with
      | ptr a' b' =>
        have h : (Nat.beq a a' && Nat.beq b b') = true := h
        simp only [Bool.and_eq_true, Nat.beq_eq] at h
        rw [h.1, h.2]
      | _ => cases h
    | nils => cases y with
      | nils => rfl
      | _ => cases h
    | sl a b c d e f => cases y with
      | sl a' b' c' d' e' f' =>
        have h : (Nat.beq a a' && Nat.beq b b' && Nat.beq c c' && Nat.beq d d' && beqB e e' && Nat.beq f f') = true := h
        rw [beqB_eq] at h
        simp only [Bool.and_eq_true, Nat.beq_eq, beq_iff_eq] at h
        obtain ⟨⟨⟨⟨⟨h1, h2⟩, h3⟩, h4⟩, h5⟩, h6⟩ := h
        rw [h1, h2, h3, h4, h5, h6]
      | _ => cases h
    | nilm => cases y with
      | nilm => rfl
      | _ => cases h
    | map a => cases y with
      | map a' =>
        have h : Nat.beq a a' = true := h
        rw [Nat.beq_eq] at h
        rw [h]
      | _ => cases h
    | func fn a b => cases fn with
      | func f => cases y with
        | func fn' a' b' => cases fn' with
          | func f' =>
            have h : (Nat.beq f f' && _ && _) = true := h
            simp only [Bool.and_eq_true, Nat.beq_eq] at h
            obtain ⟨⟨h1, h2⟩, h3⟩ := h
            rw [h1, sameAllV ih h2, sameAllV ih h3]
          | _ => cases h
        | _ => cases h
      | yield f => cases y with
        | func fn' a' b' => cases fn' with
          | yield f' =>
            have h : (Nat.beq f f' && _ && _) = true := h
            simp only [Bool.and_eq_true, Nat.beq_eq] at h
            obtain ⟨⟨h1, h2⟩, h3⟩ := h
            rw [h1, sameAllV ih h2, sameAllV ih h3]
          | _ => cases h
        | _ => cases h
      | _ => cases y <;> cases h
    | yld a => cases y with
      | yld a' =>
        have h : Nat.beq a a' = true := h
        rw [Nat.beq_eq] at h
        rw [h]
      | _ => cases h
    | nilf => cases y with
      | nilf => rfl
      | _ => cases h
    | iface t a => cases y with
      | iface t' a' =>
        have h : (Nat.beq t t' && sameV n a a') = true := h
        simp only [Bool.and_eq_true, Nat.beq_eq] at h
        rw [h.1, ih _ _ h.2]
      | _ => cases h
    | nili => cases y with
      | nili => rfl
      | _ => cases h
    | agg a => cases y with
      | agg b => rw [sameAllV ih h]
      | _ => cases h
    | tup a => cases y with
      | tup b => rw [sameAllV ih h]
      | _ => cases h
theorem readsAt_ok {c : Tc} {h : H} (k : readsAt c h = true) : c.op.run c.vs h = some c.v := by
  unfold readsAt at k
  cases e : c.op.run c.vs h with
  | none => rw [e] at k; cases k
  | some v =>
    rw [e] at k
    rw [sameV_eq 20 v c.v k]
theorem readsAll_ok {c : Tc} : ∀ {hs : List H} {i : Nat}, readsAll c i hs = true → ∀ j h, hs[j]? = some h → c.lo ≤ i + j → i + j ≤ c.hi → readsAt c h = true
  | [], i, _, j, h, e, _, _ => by simp at e
  | x :: hs, i, k, j, h, e, h1, h2 => by
    have k : Bool.rec (motive := fun _ => Bool) (Bool.rec (motive := fun _ => Bool) false (readsAll c (i + 1) hs) (readsAt c x)) (readsAll c (i + 1) hs) (Nat.blt i c.lo || Nat.blt c.hi i) = true := k
    rw [brec_eq, brec_eq] at k
    cases j with
    | zero =>
      simp at e
      subst e
      rw [if_neg] at k
      · split at k
        · assumption
        · cases k
      · simp
        omega
    | succ j =>
      have hr : readsAll c (i + 1) hs = true := by
        split at k
        · exact k
        · split at k
          · exact k
          · cases k
      exact readsAll_ok hr j h (by simpa using e) (by omega) (by omega)
theorem checkAll_ok {hs : List H} : ∀ {cs : List Tc}, checkAll cs hs = true → ∀ c ∈ cs, readsAll c 0 hs = true
  | [], _, c, h => by cases h
  | x :: cs, k, c, h => by
    have k : Bool.rec (motive := fun _ => Bool) false (checkAll cs hs) (readsAll x 0 hs) = true := k
    rw [brec_eq] at k
    split at k
    · rename_i hx
      cases h with
      | head => exact hx
      | tail _ h => exact checkAll_ok k c h
    · cases k
/-- What was read, is read wherever it may stand. -/
def Checked (cs : List Tc) (hs : List H) : Prop := ∀ c ∈ cs, ∀ j h, hs[j]? = some h → c.lo ≤ j → j ≤ c.hi → c.op.run c.vs h = some c.v
theorem checked_of {cs : List Tc} {hs : List H} (k : checkAll cs hs = true) : Checked cs hs := fun c hc j h e h1 h2 =>
  readsAt_ok (readsAll_ok (checkAll_ok k c hc) j h e (by omega) (by omega))
theorem quiet_cons (o : COper) (l : List COper) : quiet (o :: l) = COp.rec (motive := fun _ => Bool) (fun _ => quiet l) (fun _ => quiet l) (fun _ => false) (fun _ => false) (fun _ => false) false o.op := rfl
theorem checked_quiet {call : CallT} {h : H} : ∀ {l : List COper} {s s' : St}, quiet l = true → runOpsD call l s = some s' → s.h = h → s.hs = [] → (∀ c ∈ s.cs, c.op.run c.vs h = some c.v) → s'.h = h ∧ s'.hs = [] ∧ ∀ c ∈ s'.cs, c.op.run c.vs h = some c.v
  | [], s, s', _, e, h1, h2, h3 => by cases e; exact ⟨h1, h2, h3⟩
  | o :: l, s, s', q, e, h1, h2, h3 => by
    have e : ob (o.runD call s) (runOpsD call l) = some s' := e
    obtain ⟨s1, e1, e2⟩ := ob_some.1 e
    rw [quiet_cons] at q
    unfold COper.runD at e1
    obtain ⟨b, _, e3⟩ := ob_some.1 e1
    have main : quiet l = true ∧ s1.h = h ∧ s1.hs = [] ∧ ∀ c ∈ s1.cs, c.op.run c.vs h = some c.v := by
      obtain ⟨d, op, args, gd, lo, hi⟩ := o
      cases op with
      | p po =>
        refine ⟨q, ?_⟩
        cases b with
        | false => cases e3; exact ⟨h1, h2, h3⟩
        | true =>
          obtain ⟨vs, _, e4⟩ := ob_some.1 e3
          obtain ⟨r, e5, e6⟩ := ob_some.1 e4
          obtain ⟨v, _, e7⟩ := ob_some.1 (show ob (po.run vs) (fun v => some (v, s.h)) = some r from e5)
          cases e7
          cases e6
          exact ⟨h1, h2, h3⟩
      | r ro =>
        refine ⟨q, ?_⟩
        cases b with
        | false => cases e3; exact ⟨h1, h2, h3⟩
        | true =>
          obtain ⟨vs, _, e4⟩ := ob_some.1 e3
          obtain ⟨r, e5, e6⟩ := ob_some.1 e4
          obtain ⟨v, e8, e7⟩ := ob_some.1 (show ob (ro.run vs s.h) (fun v => some (v, s.h)) = some r from e5)
          cases e7
          cases e6
          refine ⟨h1, h2, fun c hc => ?_⟩
          cases hc with
          | head => rw [← h1]; exact e8
          | tail _ hc => exact h3 c hc
      | _ => cases q
    exact checked_quiet main.1 e2 main.2.1 main.2.2.1 main.2.2.2
theorem checked_ok {call : CallT} {l : List COper} {f : F} {h : H} {s : St} (e : runOpsD call l ⟨f, h, [], []⟩ = some s) (k : (Bool.rec (motive := fun _ => Bool) (checkAll s.cs (revL s.hs [s.h])) true (quiet l) : Bool) = true) : Checked s.cs (revL s.hs [s.h]) := by
  cases q : quiet l with
  | false => rw [q] at k; exact checked_of k
  | true =>
    obtain ⟨h1, h2, h3⟩ := checked_quiet q e rfl rfl (fun c hc => by cases hc)
    intro c hc j x e _ _
    rw [h2, h1] at e
    have e : ([h] : List H)[j]? = some x := e
    have : x = h := by simpa using List.mem_of_getElem? e
    rw [this]
    exact h3 c hc
theorem revL_eq {α : Type} : ∀ (l r : List α), revL l r = l.reverse ++ r
  | [], r => rfl
  | x :: l, r => by
    show revL l (x :: r) = _
    rw [revL_eq l]
    simp
theorem sub_len : ∀ {l l' : List Nat}, l.Nodup → (∀ x ∈ l, x ∈ l') → l.length ≤ l'.length
  | [], _, _, _ => Nat.zero_le _
  | x :: l, l', hn, hs => by
    have hx := hs x List.mem_cons_self
    rw [List.nodup_cons] at hn
    have := sub_len (l := l) (l' := l'.erase x) hn.2 fun y hy => by
      have hne : y ≠ x := fun e => hn.1 (e ▸ hy)
      exact (List.mem_erase_of_ne hne).2 (hs y (List.mem_cons_of_mem _ hy))
    rw [List.length_erase_of_mem hx] at this
    have : 0 < l'.length := List.length_pos_of_mem hx
    simp only [List.length_cons]
    omega
end
end Ev
end Go.Proofs.YtihflniehaaakaaGreatDoor
namespace Go.Proofs.YtihflniehaaakaaGreatDoor
set_option linter.unusedVariables false
set_option linter.unusedSimpArgs false
namespace Ev
variable [Opq]
set_option linter.unusedSectionVars false
section
variable {P : Program} {T : Ty} {m N : Nat}

/-- The entry has made a block. -/
def Made (cl : List COper) (e : Ent) (blk : Blk) : Prop :=
  ∃ c ao vs mk, cl[e.i]? = some c ∧ c.op = .a ao ∧ guardOk e.s.f c.guard = some true ∧ evs e.s.f c.args = some vs ∧ ao.run vs = some (blk, mk) ∧ e.v = mk e.s.h.next
theorem cellsBlk_kin {l : List V} {blk : Blk} (h : cellsBlk l = some blk) : blk.kin = some (none, false) := by
  obtain ⟨_, h2⟩ := oif_some.1 h
  obtain ⟨_, h4⟩ := oif_some.1 h2
  cases h4
  rfl
theorem aop_kin {ao : AOp} {vs : List V} {blk : Blk} {mk : Nat → V} (h : ao.run vs = some (blk, mk)) : blk.kin = none ∨ blk.kin = some (none, false) := by
  cases ao with
  | alloc cs =>
    cases vs with
    | nil =>
      obtain ⟨b, k1, k2⟩ := ob_some.1 (show ob (cellsBlk cs) (fun b => some (b, fun i => V.ptr i 0)) = some (blk, mk) from h)
      cases k2
      exact .inr (cellsBlk_kin k1)
    | cons => cases h
  | box =>
    cases vs with
    | nil => cases h
    | cons x vs => cases vs with
      | nil =>
        obtain ⟨b, k1, k2⟩ := ob_some.1 (show ob (cellsBlk (cellsOf x)) (fun b => some (b, fun i => V.ptr i 0)) = some (blk, mk) from h)
        cases k2
        exact .inr (cellsBlk_kin k1)
      | cons => cases h
  | bslice z ln es ps =>
    obtain ⟨cs, k1, k2⟩ := ob_some.1 (show ob (fills ps vs (repL z ln)) (fun cs => ob (cellsBlk cs) fun b => some (b, fun i => V.sl i 0 ln ln true es)) = some (blk, mk) from h)
    obtain ⟨b, k3, k4⟩ := ob_some.1 k2
    cases k4
    exact .inr (cellsBlk_kin k3)
  | mkm r =>
    cases r with
    | false => cases vs with
      | nil => cases h; exact .inl rfl
      | cons => cases h
    | true => cases vs with
      | nil => cases h
      | cons x vs => cases vs with
        | nil => cases x <;> cases h; exact .inl rfl
        | cons => cases x <;> cases h
  | mks z bytes =>
    cases vs with
    | nil => cases h
    | cons x vs => cases vs with
      | nil => cases x <;> first | (cases h; done) | (rename_i k _; cases k <;> cases h)
      | cons y vs => cases vs with
        | cons => cases x <;> first | (cases h; done) | (rename_i k _; cases k <;> first | (cases h; done) | (cases y <;> first | (cases h; done) | (rename_i k _; cases k <;> cases h)))
        | nil =>
          cases x <;> try (cases h; done)
          rename_i k1 n1
          cases k1 <;> try (cases h; done)
          cases y <;> try (cases h; done)
          rename_i k2 n2
          cases k2 <;> try (cases h; done)
          cases n1 <;> try (cases h; done)
          cases n2 <;> try (cases h; done)
          rename_i l' c'
          obtain ⟨q1, q2⟩ := oif_some.1 (show oif (Nat.ble l' c') (oif (Nat.blt (Nat.mul c' bytes) 1099511627776) (oif (Nat.blt c' 1099511627776) (ob (cellsBlk (repL z c')) fun b => some (b, fun i => V.sl i 0 l' c' true (lenL z))))) = some (blk, mk) from h)
          obtain ⟨q3, q4⟩ := oif_some.1 q2
          obtain ⟨q5, q6⟩ := oif_some.1 q4
          obtain ⟨b, q7, q8⟩ := ob_some.1 q6
          cases q8
          exact .inr (cellsBlk_kin q7)
  | rangeS =>
    cases vs with
    | nil => cases h
    | cons x vs => cases vs with
      | nil => cases x <;> cases h; exact .inl rfl
      | cons => cases x <;> cases h
theorem Ext.mem {g0 g : G} {h0 h h' : H} {w0 w : World} (x : Ext T g0 h0 w0 g h w) (r : WR T g h' w) (hn : h.next ≤ h'.next) (hb : ∀ id, id < h.next → h'.blk id = h.blk id) : Ext T g0 h0 w0 g h' w := by
  refine ⟨x.le, Nat.le_trans x.next hn, r, fun id hi e => ?_, x.size, x.keep, x.fresh, fun id b o z n cs e1 e2 => ?_, x.os, x.tape, x.output⟩
  · obtain ⟨k1, k2⟩ := x.un id hi e
    exact ⟨k1, (hb id (Nat.lt_of_lt_of_le hi x.next)).trans k2⟩
  · obtain ⟨k1, k2⟩ := x.ro id b o z n cs e1 e2
    exact ⟨(hb id (x.wr.top _ _ k1)).trans k1, k2⟩
/-- The operations up to the next one that writes: new blocks, that nothing stands for yet. -/
theorem seg_ok {call : CallT} {cl : List COper} {hi : Nat → Nat} : ∀ {B : List Ent} {k : Nat} {s sn : St}, Trace call cl hi k s B sn → ∀ {g : G} {w : World}, WR T g s.h w → ∃ S B' s', B = S ++ B' ∧ Trace call cl hi k s S s' ∧ Trace call cl hi k s' B' sn ∧
    (∀ e B'', B' = e :: B'' → isEAt cl e.i = true) ∧ (∀ e ∈ S, isEAt cl e.i = false) ∧ WR T g s'.h w ∧ s.h.next ≤ s'.h.next ∧ (∀ id, id < s.h.next → s'.h.blk id = s.h.blk id) ∧
    (∀ e ∈ S, ∀ blk, Made cl e blk → s.h.next ≤ e.s.h.next ∧ e.s.h.next < s'.h.next ∧ s'.h.blk e.s.h.next = some blk) ∧
    (∀ e ∈ S, ∀ e' ∈ S, ∀ b b', Made cl e b → Made cl e' b' → e.s.h.next = e'.s.h.next → e = e')
  | [], k, s, sn, h, g, w, r => by
    cases h
    exact ⟨[], [], s, rfl, .nil, .nil, by simp, by simp, r, Nat.le_refl _, fun _ _ => rfl, by simp, by simp⟩
  | e :: B, k, s, sn, h, g, w, r => by
    obtain ⟨rfl, rfl, c, s1, hc, st, t⟩ := h.head
    have hEc := isEAt_eq hc
    by_cases hE : isE c.op = true
    · refine ⟨[], e :: B, e.s, rfl, .nil, h, fun e' B'' he => ?_, by simp, r, Nat.le_refl _, fun _ _ => rfl, by simp, by simp⟩
      cases he
      rw [hEc]
      exact hE
    · rw [if_neg hE] at t
      -- the memory behind this one
      have hmem : (s1.h = e.s.h ∧ ∀ blk, ¬ Made cl e blk) ∨ ∃ blk, e.s.h.new blk = some s1.h ∧ (blk.kin = none ∨ blk.kin = some (none, false)) ∧ ∀ blk', Made cl e blk' → blk' = blk := by
        rcases st.main with ⟨h1, h2, h3, h4⟩ | ⟨vs, h1, h2, h3, h4, h5⟩
        · refine .inl ⟨h3, fun blk hm => ?_⟩
          obtain ⟨c', ao, vs', mk, m1, m2, m3, _⟩ := hm
          rw [hc] at m1
          cases m1
          have h1 : guardOk e.s.f c.guard = some false := h1
          rw [h1] at m3
          cases m3
        · have hrun : c.op.run call vs e.s.h = some (e.v, s1.h) := h3
          have hev : evs e.s.f c.args = some vs := h2
          have other : (∀ ao, c.op ≠ .a ao) → ∀ blk, ¬ Made cl e blk := by
            intro hn blk hm
            obtain ⟨c', ao, vs', mk, m1, m2, _⟩ := hm
            rw [hc] at m1
            cases m1
            exact hn ao m2
          cases hop : c.op with
          | p o =>
            rw [hop] at hrun
            obtain ⟨u, k1, k2⟩ := ob_some.1 (show ob (o.run vs) (fun v => some (v, e.s.h)) = some (e.v, s1.h) from hrun)
            exact .inl ⟨(Prod.mk.inj (Option.some.inj k2)).2.symm, other fun ao he => by rw [hop] at he; cases he⟩
          | r o =>
            rw [hop] at hrun
            obtain ⟨u, k1, k2⟩ := ob_some.1 (show ob (o.run vs e.s.h) (fun v => some (v, e.s.h)) = some (e.v, s1.h) from hrun)
            exact .inl ⟨(Prod.mk.inj (Option.some.inj k2)).2.symm, other fun ao he => by rw [hop] at he; cases he⟩
          | a ao =>
            rw [hop] at hrun
            obtain ⟨p, k1, k2⟩ := ob_some.1 (show ob (ao.run vs) (fun r => ob (e.s.h.new r.1) fun h' => some (r.2 e.s.h.next, h')) = some (e.v, s1.h) from hrun)
            obtain ⟨h', k3, k4⟩ := ob_some.1 k2
            have k5 : h' = s1.h := (Prod.mk.inj (Option.some.inj k4)).2
            refine .inr ⟨p.1, k5 ▸ k3, aop_kin (blk := p.1) (mk := p.2) k1, fun blk' hm => ?_⟩
            obtain ⟨c', ao', vs', mk, m1, m2, m3, m4, m5, _⟩ := hm
            rw [hc] at m1
            cases m1
            rw [hop] at m2
            cases m2
            rw [hev] at m4
            cases m4
            rw [k1] at m5
            have := Option.some.inj m5
            rw [this]
          | e o => rw [hop] at hE; exact absurd rfl hE
          | call f => rw [hop] at hE; exact absurd rfl hE
          | callv => rw [hop] at hE; exact absurd rfl hE
      rcases hmem with ⟨hs, hnm⟩ | ⟨blk, hnew, hkin, hone⟩
      · obtain ⟨S, B', s', q1, q2, q3, q4, q5, q6, q7, q8, q9, q10⟩ := seg_ok t (g := g) (w := w) (by rw [hs]; exact r)
        rw [hs] at q7 q8 q9
        refine ⟨e :: S, B', s', by rw [q1]; rfl, Trace.cons hc st (by rw [if_neg hE]; exact q2), q3, q4, fun x hx => ?_, q6, q7, q8, fun x hx blk hm => ?_, fun x hx y hy b b' hm hm' he => ?_⟩
        · cases hx with
          | head => rw [hEc]; simpa using hE
          | tail _ hx => exact q5 x hx
        · cases hx with
          | head => exact absurd hm (hnm blk)
          | tail _ hx => exact q9 x hx blk hm
        · cases hx with
          | head => exact absurd hm (hnm b)
          | tail _ hx =>
            cases hy with
            | head => exact absurd hm' (hnm b')
            | tail _ hy => exact q10 x hx y hy b b' hm hm' he
      · obtain ⟨r1, n1, n2, n3⟩ := r.add hnew hkin
        obtain ⟨S, B', s', q1, q2, q3, q4, q5, q6, q7, q8, q9, q10⟩ := seg_ok t (g := g) (w := w) r1
        have hown : s'.h.blk e.s.h.next = some blk := by rw [q8 _ (by omega), n2, if_pos rfl]
        refine ⟨e :: S, B', s', by rw [q1]; rfl, Trace.cons hc st (by rw [if_neg hE]; exact q2), q3, q4, fun x hx => ?_, q6, by omega, fun id hid => ?_, fun x hx blk' hm => ?_, fun x hx y hy b b' hm hm' he => ?_⟩
        · cases hx with
          | head => rw [hEc]; simpa using hE
          | tail _ hx => exact q5 x hx
        · rw [q8 id (by omega), n2, if_neg (by omega)]
        · cases hx with
          | head =>
            rw [hone blk' hm]
            exact ⟨Nat.le_refl _, by omega, hown⟩
          | tail _ hx =>
            obtain ⟨z1, z2, z3⟩ := q9 x hx blk' hm
            exact ⟨by omega, z2, z3⟩
        · cases hx with
          | head =>
            cases hy with
            | head => rfl
            | tail _ hy =>
              obtain ⟨z1, _, _⟩ := q9 y hy b' hm'
              omega
          | tail _ hx =>
            cases hy with
            | head =>
              obtain ⟨z1, _, _⟩ := q9 x hx b hm
              omega
            | tail _ hy => exact q10 x hx y hy b b' hm hm' he
end
end Ev
end Go.Proofs.YtihflniehaaakaaGreatDoor
