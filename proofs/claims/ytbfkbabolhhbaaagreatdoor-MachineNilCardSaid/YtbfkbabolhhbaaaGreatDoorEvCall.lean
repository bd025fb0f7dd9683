/-
  Calls, as the compiled functions have them: the law of the whole.
-/
import Derived.Test.YtbfkbabolhhbaaaGreatDoorEvExec
namespace Go.Proofs.YtbfkbabolhhbaaaGreatDoor
namespace Ev
variable [Opq]
set_option linter.unusedSectionVars false
section
variable {P : Program} {T : Ty} {m N : Nat}

theorem binds_ok {g : G} : ∀ {ts : List Tmp} {ps : List Dst} {vs : List V} {us : List Value} {f f1 : F} {tmps : Array Value}, mapO (fun t => dst m N (some t)) ts = some ps → VRs g vs us → binds ps vs f = some f1 → FR g m N f tmps →
    us.length = ts.length ∧ FR g m N f1 ((ts.zip us).foldl (fun tmps p => tmps.setIfInBounds p.1 p.2) tmps)
  | [], ps, vs, us, f, f1, tmps, h, hv, hb, hf => by
    cases h
    cases hv with
    | nil => cases hb; exact ⟨rfl, hf⟩
    | cons => cases hb
  | t :: ts, ps, vs, us, f, f1, tmps, h, hv, hb, hf => by
    rw [mapO_cons] at h
    obtain ⟨d, h1, h2⟩ := ob_some.1 h
    obtain ⟨r, h3, h4⟩ := ob_some.1 h2
    cases h4
    cases hv with
    | nil => cases hb
    | cons hx hxs =>
      rename_i v u vs us
      have hput := FR.put (a := ⟨tmps, []⟩) (o := some t) hf h1 hx
      obtain ⟨k1, k2⟩ := binds_ok h3 hxs (show binds r vs (d.put f v) = some f1 from hb) hput
      exact ⟨by simp [k1], k2⟩
theorem wide_round (b : Nat) : Fence.wide.inRound b = fen (some b) := rfl
theorem round_ok (hT : TyOk P T) {call : CallT} (hk : CallOk P T call) (hm : P.follows .mixedOrders = true) (n : Nat) {id : Nat} {vs : List V} {h h' : H} {v : V} (hr : round call n id vs h = some (v, h')) {g : G} {w : World} {us : List Value} (r : WR T g h w) (hG : Glob T g h) (hv : VRs g vs us) : CallYld P T id us g h w v h' := by
  intro b o z hg
  obtain ⟨st, f, ps, as, bd, j, e1, e2⟩ := loopOf_some hr
  obtain ⟨e3, e4⟩ := oif_some.1 e2
  obtain ⟨f1, e5, e6⟩ := ob_some.1 e4
  obtain ⟨p, e7, e8⟩ := ob_some.1 e6
  obtain ⟨x1, f2, h1⟩ := p
  cases x1 with
  | exit k => cases e8
  | ret => cases e8
  | norm =>
    obtain ⟨st1, f3, ps3, as3, bd3, j3, e9, e10⟩ := loopOf_some (show h1.loopOf id _ = some (v, h') from e8)
    obtain ⟨e11, e12⟩ := oif_some.1 e10
    obtain ⟨q, e13, e14⟩ := ob_some.1 e12
    obtain ⟨x2, f4, h2⟩ := q
    obtain ⟨st2, f5, ps5, as5, bd5, j5, e15, e16⟩ := loopOf_some (show h2.loopOf id _ = some (v, h') from e14)
    obtain ⟨e17, e18⟩ := oif_some.1 e16
    obtain ⟨b', o', z', l, m, N, n1, n2, n3, n4, n5, n6, n7, n8⟩ := r.blk id _ _ hg e1
    rw [hg] at n1
    cases n1
    obtain ⟨k1, k2⟩ := binds_ok n6 hv e5 n5
    have hsz : us.toArray.size = l.params.size := by simpa using k1
    refine ⟨l, _, run_yield n2 hsz, roundIn_of_wpIn trivial ?_⟩
    rw [wide_round]
    have htm : (l.params.zip us.toArray).foldl (fun tmps x => tmps.setIfInBounds x.1 x.2) l.tmps = (l.params.toList.zip us).foldl (fun tmps p => tmps.setIfInBounds p.1 p.2) l.tmps := by
      rw [← Array.foldl_toList, Array.toList_zip]
    have hf1 : FR g m N f1 ((l.params.zip us.toArray).foldl (fun tmps x => tmps.setIfInBounds x.1 x.2) l.tmps) := by rw [htm]; exact k2
    refine wpIn_mono (exec_ok (D := []) hT hk hm n (some b) l.assign as n7 f1 h .norm f2 h1 e7 g ⟨_, []⟩ w 0 r hG hf1 (fun e => by cases e) (Nat.zero_le _)) ?_
    rintro e a1 w1 ⟨g1, y1, y2, _, y4⟩
    rw [y4.norm_inv]
    -- the record is taken
    obtain ⟨b1, o1, z1, l1, m1, N1, p1, p2, p3, p4, p5, p6, p7, p8⟩ := y1.wr.blk id _ _ (y1.le _ _ hg) e9
    rw [y1.le _ _ hg] at p1
    cases p1
    have hready : l1.state = .ready := by
      have : stOf l1.state = 0 := by rw [p3]; simpa using e11
      cases hs : l1.state <;> rw [hs] at this <;> first | rfl | cases this
    have xb := ext_loop (k' := .loop 1 f3 ps3 as3 bd3 j3) (l' := { l1 with state := .busy }) y1.wr (y1.le _ _ hg) e9 p2 rfl
      ⟨b, o, z, _, m1, N1, y1.le _ _ hg, World.putObj_heap_same (y1.wr.lt _ _ _ _ (y1.le _ _ hg)), rfl, p4, p5, p6, p7, p8⟩
    refine ⟨_, run_beginRound p2 hready, ?_⟩
    refine wpIn_mono (exec_ok (D := []) hT hk hm n (some b) l.body bd n8 f2 _ x2 f4 h2 e13 g1 a1 _ 0 xb.wr ((hG.ext y1).ext xb) (y2.mono xb.le) (fun e => by cases e) (Nat.zero_le _)) ?_
    rintro e2 a2 w2 ⟨g2, q1, q2, _, q4⟩
    -- the record behind the round
    have hg2 := q1.le _ _ (xb.le _ _ (y1.le _ _ hg))
    obtain ⟨b2, o2, z2, l2, m2, N2, s1, s2, s3, s4, s5, s6, s7, s8⟩ := q1.wr.blk id _ _ hg2 e15
    rw [hg2] at s1
    cases s1
    have hall := (y1.trans xb).trans q1
    have hlt := q1.wr.lt _ _ _ _ hg2
    have fin : ∀ (jump : Option Code) (st' : Nat) (jx : Option X), st' = stOf (if jump.isNone then .ready else .done) → jumpOf jx = some jump → v = .bool jump.isNone → h' = h2.set id (.loop st' f5 ps5 as5 bd5 jx) →
        ∃ u w3, (Instr.endRound b jump).run P w2 = .ok u w3 ∧ Post T g h w v h' (.returned u) w3 := by
      intro jump st' jx hst hjx hvv hhh
      have xe := ext_loop (k' := .loop st' f5 ps5 as5 bd5 jx) (l' := { l2 with state := if jump.isNone then .ready else .done, pending := jump }) q1.wr hg2 e15 s2 rfl
        ⟨b, o, z, _, m2, N2, hg2, World.putObj_heap_same hlt, hst.symm, hjx, s5, s6, s7, s8⟩
      refine ⟨_, _, run_endRound jump s2, g2, _, rfl, ?_, ?_⟩
      · rw [hvv]; exact .bool _
      · rw [hhh]; exact hall.trans xe
    cases x2 with
    | norm =>
      rw [q4.norm_inv]
      cases e18
      exact fin none 0 none rfl rfl rfl rfl
    | exit k =>
      cases e2 <;> first | (cases q4; done) | skip
      have q4 : k = _ := q4
      subst q4
      cases e18
      exact fin (some (.exit k)) 2 (some (.exit k)) rfl rfl rfl rfl
    | ret =>
      cases e2 <;> first | (cases q4; done) | skip
      cases e18
      exact fin (some .ret) 2 (some .ret) rfl rfl rfl rfl
/-- Marks are taken off. -/
theorem ext_put {g g' : G} {h h' : H} {w0 w : World} (x : Ext T g h w0 g' h' w) {r : Nat} (o : Obj) (h1 : w0.heap.size ≤ r) (h2 : ∀ id o z, g' id ≠ some (r, o, z)) : Ext T g h w0 g' h' (w.putObj r o) := by
  have hne : ∀ {id b o z}, g' id = some (b, o, z) → b ≠ r := fun hg e => h2 _ _ _ (e ▸ hg)
  have r' : WR T g' h' (w.putObj r o) := by
    refine ⟨x.wr.bound, x.wr.top, x.wr.dom, fun id b o' z e => by rw [World.putObj_size]; exact x.wr.lt _ _ _ _ e, fun id y b e1 e2 => ?_, x.wr.mates, x.wr.kids, x.wr.ext⟩
    obtain ⟨b', o', z⟩ := y
    exact BR.move e1 (World.putObj_heap_other (hne e1)) (x.wr.blk _ _ _ e1 e2)
  refine ⟨x.le, x.next, r', x.un, by rw [World.putObj_size]; exact x.size, fun b hb hn => ?_, x.fresh, fun id b o' z n cs e1 e2 => ?_, x.os, x.tape, x.output⟩
  · rw [World.putObj_heap_other (by omega)]
    exact x.keep b hb hn
  · obtain ⟨k1, k2⟩ := x.ro id b o' z n cs e1 e2
    exact ⟨k1, by rw [World.putObj_heap_other (hne (x.le _ _ e1))]; exact k2⟩
theorem leaves_ok {fn : Func} {tmps : Array Value} {g g' : G} {h h' : H} {w0 : World} {v : V} : ∀ {rs : List Nat} {w : World}, rs.Nodup → (∀ r ∈ rs, w0.heap.size ≤ r ∧ r < w.heap.size ∧ (∀ id o z, g' id ≠ some (r, o, z)) ∧ w.heap[r]? = some (.deferred (some []))) →
    Ext T g h w0 g' h' w → (∀ w, WR T g' h' w → ∃ u, VR g' v u ∧ (results fn tmps).run P w = .ok u w) → LeavesInM Fence.wide 0 P fn tmps (Post T g h w0 v h') (rs.map markOf) .returning w
  | [], w, _, _, x, hres => by
    obtain ⟨u, h1, h2⟩ := hres w x.wr
    exact ⟨u, h2, g', u, rfl, h1, x⟩
  | r :: rs, w, hn, hm, x, hres => by
    rw [List.nodup_cons] at hn
    obtain ⟨k1, k2, k3, k4⟩ := hm r List.mem_cons_self
    refine ⟨(fun e => by cases e), .inl ⟨r, _, rfl, run_takeDeferred k4, leaves_ok hn.2 (fun s hs => ?_) (ext_put x _ k1 k3) hres⟩⟩
    obtain ⟨q1, q2, q3, q4⟩ := hm s (List.mem_cons_of_mem _ hs)
    have hne : s ≠ r := fun e => hn.1 (e ▸ hs)
    exact ⟨q1, by rw [World.putObj_size]; exact q2, q3, by rw [World.putObj_heap_other hne]; exact q4⟩
/-- The results' variables. -/
noncomputable def resC (T : Ty) (m : Nat) (r : ResultVar) : Option CRes := match r with
  | .tmp t => ob (opd T m (.tmp t)) fun o => some (CRes.tmp o)
  | .cell t ty => ob (opd T m (.tmp t)) fun o => ob (aggT T ty) fun a => ob (sizeT T ty) fun n => some (CRes.cell o a n)
noncomputable def resV (f : F) (h : H) (c : CRes) : Option V := match c with
  | .tmp o => o.ev f
  | .cell o a n => ob (o.ev f) fun v => (ROp.load a n).run [v] h
def resRun (tmps : Array Value) (r : ResultVar) : Sem Value := match r with
  | .tmp t => pure (tmps.getD t undef)
  | .cell a t => do loadVar t (← asAddr (tmps.getD a undef))
theorem res_one (hT : TyOk P T) {g : G} {f : F} {h : H} {w : World} {tmps : Array Value} {r : ResultVar} {c : CRes} {v : V} (hc : resC T m r = some c) (hf : FR g m N f tmps) (he : resV f h c = some v) (hw : WR T g h w) :
    ∃ u, VR g v u ∧ (resRun tmps r).run P w = .ok u w := by
  cases r with
  | tmp t =>
    obtain ⟨o, h1, h2⟩ := ob_some.1 (show ob (opd T m (.tmp t)) (fun o => some (CRes.tmp o)) = some c from hc)
    cases h2
    have he : o.ev f = some v := he
    rw [opd_ev h1] at he
    obtain ⟨u, k1, k2⟩ := hf.2 t v he
    exact ⟨u, k2, by simp [resRun, Array.getD_eq_getD_getElem?, k1]⟩
  | cell t ty =>
    obtain ⟨o, h1, h2⟩ := ob_some.1 (show ob (opd T m (.tmp t)) (fun o => ob (aggT T ty) fun a => ob (sizeT T ty) fun n => some (CRes.cell o a n)) = some c from hc)
    obtain ⟨a, h3, h4⟩ := ob_some.1 h2
    obtain ⟨n, h5, h6⟩ := ob_some.1 h4
    cases h6
    obtain ⟨p, k1, k2⟩ := ob_some.1 (show ob (o.ev f) (fun v => (ROp.load a n).run [v] h) = some v from he)
    rw [opd_ev h1] at k1
    obtain ⟨pu, k3, k4⟩ := hf.2 t p k1
    obtain ⟨u, m1, m2, m3⟩ := gives_load (ρ := fun _ => pu) (x := .tmp t) hT hw h3 h5 (VRs.cons k4 .nil) k2
    have hp : ∃ ad, pu = .pointer (some ad) := by
      cases p with
      | ptr i j => cases k4; exact ⟨_, rfl⟩
      | _ => cases a <;> cases k2
    obtain ⟨ad, rfl⟩ := hp
    refine ⟨u, m1, ?_⟩
    simp [resRun, Array.getD_eq_getD_getElem?, k3, asAddr]
    exact m2
theorem resOf_cons (f : F) (h : H) (c : CRes) (l : List CRes) : resOf f h (c :: l) = ob (resV f h c) fun v => ob (resOf f h l) fun vs => some (v :: vs) := by
  cases c <;> rfl
theorem res_list (hT : TyOk P T) {g : G} {f : F} {h : H} {w : World} {tmps : Array Value} (hf : FR g m N f tmps) (hw : WR T g h w) : ∀ {rs : List ResultVar} {cs : List CRes} {vs : List V}, mapO (resC T m) rs = some cs → resOf f h cs = some vs →
    ∃ us, VRs g vs us ∧ (rs.mapM (resRun tmps)).run P w = .ok us w
  | [], cs, vs, hc, he => by
    cases hc
    cases he
    exact ⟨[], .nil, by simp⟩
  | r :: rs, cs, vs, hc, he => by
    rw [mapO_cons] at hc
    obtain ⟨c, h1, h2⟩ := ob_some.1 hc
    obtain ⟨cs', h3, h4⟩ := ob_some.1 h2
    cases h4
    rw [resOf_cons] at he
    obtain ⟨v, h5, h6⟩ := ob_some.1 he
    obtain ⟨vs', h7, h8⟩ := ob_some.1 h6
    cases h8
    obtain ⟨u, k1, k2⟩ := res_one hT h1 hf h5 hw
    obtain ⟨us, k3, k4⟩ := res_list hT hf hw h3 h7
    exact ⟨u :: us, .cons k1 k3, by simp [k2, k4]⟩
theorem oneOrTup_ok {g : G} {vs : List V} {us : List Value} (h : VRs g vs us) : VR g (oneOrTup vs) (if h : us.toArray.size = 1 then us.toArray[0] else .tuple us.toArray) := by
  cases h with
  | nil => exact .tup .nil
  | cons hv ht =>
    cases ht with
    | nil => exact hv
    | cons hv2 ht2 =>
      rw [dif_neg (by simp)]
      exact .tup (.cons hv (.cons hv2 ht2))
theorem results_ok (hT : TyOk P T) {g : G} {f : F} {h : H} {w : World} {tmps : Array Value} {fn : Func} (hf : FR g m N f tmps) (hw : WR T g h w) {cs : List CRes} {vs : List V} (hc : mapO (resC T m) fn.results.toList = some cs) (he : resOf f h cs = some vs) :
    ∃ u, VR g (oneOrTup vs) u ∧ (results fn tmps).run P w = .ok u w := by
  obtain ⟨us, k1, k2⟩ := res_list hT hf hw hc he
  refine ⟨_, oneOrTup_ok k1, ?_⟩
  have hfn : results fn tmps = (do let vs ← fn.results.mapM (resRun tmps); pure (if h : vs.size = 1 then vs[0] else .tuple vs)) := rfl
  rw [hfn, Array.mapM_eq_mapM_toList]
  simp [k2]
theorem numbered_cons (v : V) (l : List V) (i : Nat) : numbered (v :: l) i = (i, v) :: numbered l (i + 1) := rfl
theorem lk_numbered : ∀ (l : List V) (i t : Nat), lk (numbered l i) t = if i ≤ t then l[t - i]? else none
  | [], i, t => by
    show none = _
    simp
  | v :: l, i, t => by
    rw [numbered_cons, lk_cons, lk_numbered l (i + 1) t]
    by_cases h : i = t
    · subst h
      simp
    · by_cases h2 : i + 1 ≤ t
      · rw [if_neg h, if_pos h2, if_pos (by omega), show t - i = (t - (i + 1)) + 1 by omega, List.getElem?_cons_succ]
      · rw [if_neg h, if_neg h2, if_neg (by omega)]
theorem enter_ok (hT : TyOk P T) {call : CallT} (hk : CallOk P T call) (hm : P.follows .mixedOrders = true) (n : Nat) {f : FuncId} {fn : Func} {cf : CF} {vs : List V} {h h' : H} {v : V} (hfn : P.funcs[f]? = some fn) (hcf : compF T fn = some cf) (hr : enter call n cf vs h = some (v, h')) {g : G} {w : World} {us : List Value} (r : WR T g h w) (hG : Glob T g h) (hv : VRs g vs us) :
    CallsIn Fence.wide 0 P f us.toArray w (Post T g h w v h') := by
  obtain ⟨c, e1, e2⟩ := ob_some.1 (show ob fn.body _ = some cf from hcf)
  obtain ⟨e3, e4⟩ := oif_some.1 e2
  obtain ⟨cc, e5, e6⟩ := ob_some.1 e4
  obtain ⟨rs, e7, e8⟩ := ob_some.1 e6
  cases e8
  generalize hmm : maskOf c (fn.results.toList.foldl (fun m r => match r with | .tmp t => addBit m t | .cell t _ => addBit m t) ((List.range (fn.params.size + fn.nfree)).foldl addBit 0)) = m at e5 e7
  have e7' : mapO (resC T m) fn.results.toList = some rs := e7
  obtain ⟨k1, k2⟩ := oif_some.1 (show oif (Nat.beq (lenL vs) (fn.params.size + fn.nfree)) _ = some (v, h') from hr)
  obtain ⟨q, k3, k4⟩ := ob_some.1 k2
  obtain ⟨x, f1, h1⟩ := q
  rw [lenL_eq] at k1
  have hlen := hv.length
  have k1' : vs.length = fn.params.size + fn.nfree := by simpa using k1
  have e3' : fn.params.size + fn.nfree ≤ fn.ntmps := by simpa using e3
  have hus : us.length ≤ fn.ntmps := by omega
  have htoo : ∀ (f1 : F) (h1 : H), (∃ l, resOf f1 h1 rs = some l ∧ v = oneOrTup l ∧ h' = h1) → True := fun _ _ _ => trivial
  clear htoo
  have hF : FR g m fn.ntmps ⟨numbered vs 0, []⟩ (us.toArray ++ Array.replicate (fn.ntmps - us.toArray.size) undef) := by
    refine ⟨by simp; omega, fun t x e => ?_⟩
    unfold rdn at e
    split at e
    · have e : lk (numbered vs 0) t = some x := e
      rw [lk_numbered, if_pos (Nat.zero_le _)] at e
      obtain ⟨u, m1, m2⟩ := hv.get e
      refine ⟨u, ?_, m2⟩
      have ht : t < us.length := by
        rcases Nat.lt_or_ge t us.length with k | k
        · exact k
        · rw [List.getElem?_eq_none (by omega)] at m1; cases m1
      rw [Array.getElem?_append_left (by simpa using ht)]
      simpa using m1
    · cases e
  refine callsIn_of_wp_marks hfn e1 trivial ?_
  have hex := exec_ok (D := []) hT hk hm n none c cc e5 _ h x f1 h1 k3 g ⟨us.toArray ++ Array.replicate (fn.ntmps - us.toArray.size) undef, []⟩ w w.heap.size r hG hF (fun _ => .nil) (Nat.le_refl _)
  refine wpIn_mono hex ?_
  rintro e a' w' ⟨g', y1, y2, y3, y4⟩
  have leave : ∀ {l : List V}, resOf f1 h1 rs = some l → v = oneOrTup l → h' = h1 → LeavesInM Fence.wide 0 P fn a'.tmps (Post T g h w v h') a'.defers .returning w' := by
    intro l hl hvv hhh
    subst hvv hhh
    obtain ⟨ms, p1, p2, p3⟩ := y3 rfl
    rw [p1, List.append_nil]
    exact leaves_ok p2 p3 y1 fun w2 hw2 => results_ok hT y2 hw2 e7' hl
  cases x with
  | exit j => cases k4
  | norm =>
    obtain ⟨l, m1, m2⟩ := ob_some.1 (show ob (resOf f1 h1 rs) (fun l => some (oneOrTup l, h1)) = some (v, h') from k4)
    cases m2
    rw [y4.norm_inv]
    exact leave m1 rfl rfl
  | ret =>
    obtain ⟨l, m1, m2⟩ := ob_some.1 (show ob (resOf f1 h1 rs) (fun l => some (oneOrTup l, h1)) = some (v, h') from k4)
    cases m2
    cases e <;> first | (cases y4; done) | skip
    exact leave m1 rfl rfl
/-- What is known of functions beforehand is so. -/
def PrimOk (P : Program) (T : Ty) (prim : FuncId → Option (List V → H → Option (V × H))) : Prop :=
  ∀ f p, prim f = some p → ∀ vs h v h', p vs h = some (v, h') → ∀ g w us, WR T g h w → Glob T g h → VRs g vs us → CallFn P T f us g h w v h'
/-- The table holds the program's functions. -/
def TabOk (P : Program) (T : Ty) (tab : FuncId → Option CF) : Prop :=
  ∀ f cf, tab f = some cf → ∃ fn, P.funcs[f]? = some fn ∧ fn.name ≠ "runtime.NumGoroutine" ∧ compF T fn = some cf
theorem orec_some {α β : Type} {o : Option α} {n : Option β} {s : α → Option β} {r : β} (h : (Option.rec (motive := fun _ => Option β) n s o : Option β) = some r) : (o = none ∧ n = some r) ∨ ∃ a, o = some a ∧ s a = some r := by
  cases o with
  | none => exact .inl ⟨rfl, h⟩
  | some a => exact .inr ⟨a, rfl, h⟩
theorem callN_ok (hT : TyOk P T) (hm : P.follows .mixedOrders = true) {prim : FuncId → Option (List V → H → Option (V × H))} {tab : FuncId → Option CF} (hp : PrimOk P T prim) (ht : TabOk P T tab) : ∀ n, CallOk P T (callN prim tab n)
  | 0 => ⟨(fun f vs h v h' e => by cases e), (fun id vs h v h' e => by cases e)⟩
  | n + 1 => by
    have ih := callN_ok hT hm hp ht n
    have go : ∀ {f vs h v h'}, (ob (tab f) fun cf => enter (callN prim tab n) 1000000 cf vs h) = some (v, h') → ∀ g w us, WR T g h w → Glob T g h → VRs g vs us → CallFn P T f us g h w v h' := by
      intro f vs h v h' e g w us r hG hv
      obtain ⟨cf, e1, e2⟩ := ob_some.1 e
      obtain ⟨fn, k1, k2, k3⟩ := ht f cf e1
      refine ⟨fn, k1, k2, ?_, enter_ok hT ih hm 1000000 k1 k3 e2 r hG hv⟩
      obtain ⟨c, m1, _⟩ := ob_some.1 (show ob fn.body _ = some cf from k3)
      rw [m1]
      rfl
    refine ⟨fun f vs h v h' e g w us r hG hv => ?_, fun id vs h v h' e g w us r hG hv => ?_⟩
    · have e : (Option.rec (motive := fun _ => Option (V × H)) (ob (tab f) fun cf => enter (callN prim tab n) 1000000 cf vs h)
        (fun g => Option.rec (motive := fun _ => Option (V × H)) (ob (tab f) fun cf => enter (callN prim tab n) 1000000 cf vs h) some (g vs h)) (prim f) : Option (V × H)) = some (v, h') := e
      rcases orec_some e with ⟨_, e1⟩ | ⟨p, e1, e2⟩
      · exact go e1 g w us r hG hv
      · rcases orec_some e2 with ⟨_, e3⟩ | ⟨q, e3, e4⟩
        · exact go e3 g w us r hG hv
        · cases e4
          exact hp f p e1 vs h v h' e3 g w us r hG hv
    · have e : round (callN prim tab n) 1000000 id vs h = some (v, h') := e
      exact round_ok hT ih hm 1000000 e r hG hv
end
end Ev
end Go.Proofs.YtbfkbabolhhbaaaGreatDoor
