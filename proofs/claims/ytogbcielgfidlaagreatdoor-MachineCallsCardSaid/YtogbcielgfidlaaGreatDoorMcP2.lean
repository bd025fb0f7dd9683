/-
  Keeper.Room as a known function: the words in a new row, the keeper's counters and the heap's empty slices forgotten.
-/
import Derived.Test.YtogbcielgfidlaaGreatDoorMcX
import Derived.Test.YtogbcielgfidlaaGreatDoorMcQ6
namespace Go.Proofs.YtogbcielgfidlaaGreatDoor
set_option linter.unusedVariables false
set_option linter.unusedSimpArgs false
set_option linter.unusedSectionVars false
namespace Ev
noncomputable section
def isFs (v : V) : Bool := match v with
  | .func (.yield k) [.int .i64 l, .int .i64 o] [] => Nat.beq k 2 && (eqI l 1 && eqI o 0)
  | _ => false
def isUl (v : V) : Bool := match v with
  | .func (.yield k) [.nilm, .int .i64 l] [] => Nat.beq k 0 && eqI l 0
  | _ => false
def isUb (v : V) : Bool := match v with
  | .func (.yield _) [.nilm, .bool true] [] => true
  | _ => false
def intB (v : V) : Bool := match v with
  | .func (.yield _) [.nilm] [] => true
  | .int .i64 _ => true
  | _ => false
def empB (v : V) : Bool := match v with
  | .func (.yield _) [.nilm, .nils] [] => true
  | .nils => true
  | .sl _ _ 0 _ _ _ => true
  | _ => false
def immB (v : V) : Bool := match v with
  | .int .u64 m => Bool.rec (motive := fun _ => Bool) (!ltI m 3 && (ltI m 160000 && eqI (Int.emod m 16) 3)) true (eqI m 11)
  | .func (.yield _) [.int .i64 _, .int .i64 _, .nilp] [] => true
  | _ => false
def allImm (l : List V) : Bool := List.rec (motive := fun _ => Bool) true (fun v _ ih => tt2 (immB v) ih) l
def loneC (h : H) (k n : Nat) : Option (List V) := ob (h.blk k) fun b => match b with
  | .cells m cs none false => oif (Nat.beq m n) (rdFrom cs n n 0)
  | _ => none
def liveC (h : H) (k : Nat) : Bool := Option.rec (motive := fun _ => Bool) false (fun b => match b with
  | .cells _ _ _ _ => true
  | _ => false) (h.blk k)
/-- The memory behind it. -/
def roomH (k hd td sd : Nat) (mn ec : V) (h : H) : H := ⟨(h.t.put k (some (cellsB [.ptr hd 0, fs, mn, ec, uk, uk, uk]))).put hd (some (cellsB [ue, ue, ue, ue, .int .i64 0, fs, .ptr td 0, .ptr sd 0])), h.next⟩
def roomR (ws : List V) (len : Nat) (h : H) : Option (V × H) := ob (h.new (.cells len (trOf ws 0 .e) none false)) fun h' => some (.tup [.sl h.next 0 len 0 false 1, .int .i64 0], h')
def roomK (k hd rid off len : Nat) (mn ec : V) (h : H) (l : List V) : Option (V × H) := match l with
  | [y0, y1, y2, y3, .int .i64 z, f', .ptr td 0, .ptr sd 0] =>
    oif (empB y0 && (empB y1 && (empB y2 && (empB y3 && (eqI z 0 && isFs f'))))) <| oif (liveC h td && (liveC h sd && (!Nat.beq td k && (!Nat.beq td hd && (!Nat.beq sd k && (!Nat.beq sd hd && (!Nat.beq rid k && (!Nat.beq rid hd && !Nat.beq k hd)))))))) <|
      ob (h.rd rid off len) fun ws => oif (allImm ws && (Nat.blt 0 len && Nat.ble len 100000)) (roomR ws len (roomH k hd td sd mn ec h))
  | _ => none
def roomJ (k rid off len : Nat) (h : H) (l : List V) : Option (V × H) := match l with
  | [.ptr hd 0, f, mn, ec, c1, c2, c3] => oif (isFs f && (isUl mn && (isUb ec && (intB c1 && (intB c2 && intB c3))))) (ob (loneC h hd 8) fun l => roomK k hd rid off len mn ec h l)
  | _ => none
def roomP (vs : List V) (h : H) : Option (V × H) := match vs with
  | [.ptr k 0, .int .i64 n, .sl rid off len _ _ 1] => oif (eqI n 0) (ob (loneC h k 7) fun l => roomJ k rid off len h l)
  | _ => none
end
set_option warn.classDefReducibility false in
/-- The numbers behind a run of Room: the keeper's first size, and the words. -/
def opqR (F : Int) (u : Value) (hu : ∃ a l c, u = .slice a l c) : Opq := ⟨fun n => if n = 5 then u else .int .i64 F, fun n => by
  by_cases h : n = 5
  · rw [if_pos h]; exact .inr (.inr hu)
  · rw [if_neg h]; exact .inl ⟨F, rfl⟩⟩
theorem room_key {l : Lay} (o : l.Ok) {w : World} (i : l.In w) : Calls Tryz.prog 211 #[.pointer (some ⟨l.kb, l.ko, none⟩), .int .i64 0, .slice (some ⟨l.rb, l.ro, none⟩) l.zs.length l.cap] w (RoomR l w) :=
  @room_c (opqR l.F (.slice (some ⟨l.rb, l.ro, none⟩) l.zs.length l.cap) ⟨_, _, _, rfl⟩) l o rfl rfl w i
variable [Opq]
set_option linter.unusedSectionVars false
theorem CellsAt.of_rdAt {T : Ty} {g : G} {h : H} {w : World} (r : WR T g h w) {id off n b o z : Nat} {l : List V} (hn : 0 < n) (hg : g id = some (b, o, z)) (e : h.rd id off n = some l) : ∃ us, VRs g l us ∧ us.length = n ∧ CellsAt w b (o + off) (z - off) us := by
  unfold H.rd at e
  obtain ⟨p, h1, h2⟩ := ob_some.1 e
  obtain ⟨b', o', z', c, t, k1, k2, k3, k4, k5, k6⟩ := cells_ok' r hg h1
  rw [hg] at k1
  cases k1
  obtain ⟨us, m1, m2, m3, m4, m5⟩ := rdFrom_ok k6 n off l h2
  have m5 := m5 hn
  exact ⟨us, m1, m2, c, t, k2, by omega, by omega, m3⟩
theorem loneC_some {h : H} {k n : Nat} {l : List V} (e : loneC h k n = some l) : ∃ cs, h.blk k = some (.cells n cs none false) ∧ h.rd k 0 n = some l := by
  obtain ⟨b, e1, e2⟩ := ob_some.1 e
  split at e2
  · obtain ⟨e3, e4⟩ := oif_some.1 e2
    obtain rfl := Nat.eq_of_beq_eq_true e3
    refine ⟨_, e1, ?_⟩
    unfold H.rd H.cells
    rw [e1]
    exact e4
  · cases e2
theorem liveC_some {h : H} {k : Nat} (e : liveC h k = true) : ∃ n cs up ch, h.blk k = some (.cells n cs up ch) := by
  unfold liveC at e
  cases hb : h.blk k with
  | none => rw [hb] at e; cases e
  | some b =>
    rw [hb] at e
    cases b <;> first | exact ⟨_, _, _, _, rfl⟩ | cases e
theorem isFs_eq {v : V} (e : isFs v = true) : v = fs := by
  unfold isFs at e
  split at e
  · simp only [Bool.and_eq_true] at e
    obtain rfl := Nat.eq_of_beq_eq_true e.1
    rw [eI_eq e.2.1, eI_eq e.2.2]
    rfl
  · cases e
theorem isUl_eq {v : V} (e : isUl v = true) : v = ul := by
  unfold isUl at e
  split at e
  · simp only [Bool.and_eq_true] at e
    obtain rfl := Nat.eq_of_beq_eq_true e.1
    rw [eI_eq e.2]
    rfl
  · cases e
theorem isUb_ok {v : V} (e : isUb v = true) {g : G} {u : Value} (h : VR g v u) : (∃ b, u = .bool b) ∧ ∀ b, VR g v (.bool b) := by
  unfold isUb at e
  split at e
  · cases h; exact ⟨⟨_, rfl⟩, fun b => .unb⟩
  · cases e
theorem intB_ok {v : V} (e : intB v = true) {g : G} {u : Value} (h : VR g v u) : ∃ n, u = .int .i64 n := by
  unfold intB at e
  split at e
  · cases h; exact ⟨_, rfl⟩
  · cases h; exact ⟨_, rfl⟩
  · cases e
theorem empB_ok {v : V} (e : empB v = true) {g : G} {u : Value} (h : VR g v u) : ∃ a c, u = .slice a 0 c := by
  unfold empB at e
  split at e
  · cases h; exact ⟨_, _, rfl⟩
  · cases h; exact ⟨_, _, rfl⟩
  · cases h <;> exact ⟨_, _, rfl⟩
  · cases e
theorem immB_ok {v : V} (e : immB v = true) {g : G} {u : Value} (h : VR g v u) : ∃ x, u = .int .u64 x ∧ ImmW x := by
  unfold immB at e
  split at e
  · rename_i m
    rw [h.int_inv]
    refine ⟨m, rfl, ?_⟩
    cases hm : eqI m 11 with
    | true => exact .inl (eI_eq hm)
    | false =>
      rw [hm] at e
      have e : (!ltI m 3 && (ltI m 160000 && eqI (Int.emod m 16) 3)) = true := e
      simp only [Bool.and_eq_true, ltI_eq] at e
      obtain ⟨e1, e2, e3⟩ := e
      have e1 : ¬ m < 3 := by simpa using e1
      have e2 : m < 160000 := by simpa using e2
      have e3 : m % 16 = 3 := eI_eq e3
      refine .inr ⟨(m / 16).toNat, by omega, by omega⟩
  · obtain ⟨n, hn, rfl, _⟩ := wd_inv h
    exact ⟨_, rfl, .inr ⟨n, hn, rfl⟩⟩
  · cases e
theorem allImm_ok {g : G} : ∀ {l : List V} {us : List Value}, allImm l = true → VRs g l us → ∃ zs : List Int, us = zs.map (Value.int .u64) ∧ ∀ j, j < zs.length → ImmW (zs.getD j 0)
  | _, _, _, .nil => ⟨[], rfl, fun j hj => by simp at hj⟩
  | _, _, e, .cons h t => by
    obtain ⟨e1, e2⟩ := tt2_and.1 e
    obtain ⟨x, rfl, hx⟩ := immB_ok e1 h
    obtain ⟨zs, rfl, hz⟩ := allImm_ok e2 t
    refine ⟨x :: zs, rfl, fun j hj => ?_⟩
    cases j with
    | zero => simpa using hx
    | succ j => simpa using hz j (by simpa using hj)
theorem allImm_one : ∀ {l : List V}, allImm l = true → ∀ {v : V}, v ∈ l → oneCell v = true
  | x :: l, e, v, h => by
    obtain ⟨e1, e2⟩ := tt2_and.1 e
    cases h with
    | head =>
      unfold immB at e1
      split at e1 <;> first | rfl | cases e1
    | tail _ h => exact allImm_one e2 h
theorem fs_inv {g : G} {u : Value} (h : VR g fs u) : ∃ F, Opq.val 2 = .int .i64 F ∧ 1 ≤ F ∧ F ≤ 5000 ∧ u = .int .i64 F := by
  obtain ⟨B, h1, _, h2, h3, rfl⟩ := VR.oqs_inv (g := g) (k := 2) (l := 1) (o := 0) (c := []) h
  exact ⟨B, h1, h2, h3, by rw [Int.add_zero]⟩
theorem fs_vr {g : G} {F : Int} (h : Opq.val 2 = .int .i64 F) (h1 : 1 ≤ F) (h2 : F ≤ 5000) : VR g fs (.int .i64 F) := by
  have := @VR.oqs _ g 2 1 0 F h (by omega) h1 h2
  rwa [Int.add_zero] at this
theorem roomP_some {vs : List V} {h : H} {r : V × H} (e : roomP vs h = some r) : ∃ k rid off len cap ex l, vs = [.ptr k 0, .int .i64 0, .sl rid off len cap ex 1] ∧ loneC h k 7 = some l ∧ roomJ k rid off len h l = some r := by
  unfold roomP at e
  split at e
  · obtain ⟨e0, e1⟩ := oif_some.1 e
    obtain ⟨l, e2, e3⟩ := ob_some.1 e1
    rw [eI_eq e0]
    exact ⟨_, _, _, _, _, _, l, rfl, e2, e3⟩
  · cases e
theorem roomJ_some {k rid off len : Nat} {h : H} {l : List V} {r : V × H} (e : roomJ k rid off len h l = some r) : ∃ hd f mn ec c1 c2 c3 l', l = [.ptr hd 0, f, mn, ec, c1, c2, c3] ∧ (isFs f = true ∧ isUl mn = true ∧ isUb ec = true ∧ intB c1 = true ∧ intB c2 = true ∧ intB c3 = true) ∧ loneC h hd 8 = some l' ∧ roomK k hd rid off len mn ec h l' = some r := by
  unfold roomJ at e
  split at e
  · obtain ⟨e0, e1⟩ := oif_some.1 e
    obtain ⟨l', e2, e3⟩ := ob_some.1 e1
    simp only [Bool.and_eq_true] at e0
    exact ⟨_, _, _, _, _, _, _, l', rfl, e0, e2, e3⟩
  · cases e
theorem roomK_some {k hd rid off len : Nat} {mn ec : V} {h : H} {l : List V} {r : V × H} (e : roomK k hd rid off len mn ec h l = some r) : ∃ y0 y1 y2 y3 f' td sd ws, l = [y0, y1, y2, y3, .int .i64 0, f', .ptr td 0, .ptr sd 0] ∧ (empB y0 = true ∧ empB y1 = true ∧ empB y2 = true ∧ empB y3 = true ∧ isFs f' = true) ∧
    (liveC h td = true ∧ liveC h sd = true ∧ td ≠ k ∧ td ≠ hd ∧ sd ≠ k ∧ sd ≠ hd ∧ rid ≠ k ∧ rid ≠ hd ∧ k ≠ hd) ∧ h.rd rid off len = some ws ∧ (allImm ws = true ∧ 0 < len ∧ len ≤ 100000) ∧ roomR ws len (roomH k hd td sd mn ec h) = some r := by
  unfold roomK at e
  split at e
  · obtain ⟨e0, e1⟩ := oif_some.1 e
    obtain ⟨e2, e3⟩ := oif_some.1 e1
    obtain ⟨ws, e4, e5⟩ := ob_some.1 e3
    obtain ⟨e6, e7⟩ := oif_some.1 e5
    have ne : ∀ {a b : Nat}, (!Nat.beq a b) = true → a ≠ b := fun h k => by subst k; simp at h
    simp only [Bool.and_eq_true] at e0 e2 e6
    obtain ⟨a0, a1, a2, a3, az, a4⟩ := e0
    obtain ⟨b1, b2, b3, b4, b5, b6, b7, b8, b9⟩ := e2
    rw [eI_eq az]
    exact ⟨_, _, _, _, _, _, _, ws, rfl, ⟨a0, a1, a2, a3, a4⟩, ⟨b1, b2, ne b3, ne b4, ne b5, ne b6, ne b7, ne b8, ne b9⟩, e4, ⟨e6.1, by simpa using e6.2.1, by simpa using e6.2.2⟩, e7⟩
  · cases e
set_option maxHeartbeats 1000000 in
theorem room_ok : PrimOf 211 roomP := fun vs h v h' e g w us r hG hv => by
  obtain ⟨k, rid, off, len, cap, ex, l7, rfl, hk7, eJ⟩ := roomP_some e
  obtain ⟨hd, f, mn, ec, c1, c2, c3, l8, rfl, ⟨qf, qm, qe, q1, q2, q3⟩, hk8, eK⟩ := roomJ_some eJ
  obtain rfl := isFs_eq qf
  obtain rfl := isUl_eq qm
  obtain ⟨y0, y1, y2, y3, f', td, sd, ws, rfl, ⟨p0, p1, p2, p3, pf⟩, ⟨l1, l2, d1, d2, d3, d4, d5, d6, d7⟩, er, ⟨qi, qp, ql⟩, eR⟩ := roomK_some eK
  obtain rfl := isFs_eq pf
  obtain ⟨cs7, b7, r7⟩ := loneC_some hk7
  obtain ⟨cs8, b8, r8⟩ := loneC_some hk8
  obtain ⟨n1, t1, u1, ch1, bt⟩ := liveC_some l1
  obtain ⟨n2, t2, u2, ch2, bs⟩ := liveC_some l2
  obtain _ | ⟨v1, _ | ⟨v2, _ | @⟨_, v3u, _, _, v3, _ | _⟩⟩⟩ := hv
  rw [v2.int_inv]
  cases v1 with
  | ptr gk =>
  rename_i kb ko kz
  obtain ⟨us7, w7, n7, m7⟩ := CellsAt.of_rd r gk r7
  obtain _ | ⟨a0, _ | ⟨a1, _ | ⟨a2, _ | ⟨a3, _ | ⟨a4, _ | ⟨a5, _ | ⟨a6, _ | _⟩⟩⟩⟩⟩⟩⟩ := w7
  cases a0 with
  | ptr ghd =>
  rename_i hb ho hz
  obtain ⟨F, hF, F1, F2, rfl⟩ := fs_inv a1
  cases a2 with
  | unl hM =>
  rename_i M
  obtain ⟨⟨E, rfl⟩, hE⟩ := isUb_ok qe a3
  obtain ⟨x4, rfl⟩ := intB_ok q1 a4
  obtain ⟨x5, rfl⟩ := intB_ok q2 a5
  obtain ⟨x6, rfl⟩ := intB_ok q3 a6
  obtain ⟨us8, w8, n8, m8⟩ := CellsAt.of_rd r ghd r8
  obtain _ | ⟨b0, _ | ⟨b1, _ | ⟨b2, _ | ⟨b3, _ | ⟨b4, _ | ⟨b5, _ | ⟨b6, _ | ⟨b7', _ | _⟩⟩⟩⟩⟩⟩⟩⟩ := w8
  obtain ⟨A0, C0, rfl⟩ := empB_ok p0 b0
  obtain ⟨A1, C1, rfl⟩ := empB_ok p1 b1
  obtain ⟨A2, C2, rfl⟩ := empB_ok p2 b2
  obtain ⟨A3, C3, rfl⟩ := empB_ok p3 b3
  rw [b4.int_inv] at m8
  obtain ⟨F', hF', _, _, rfl⟩ := fs_inv b5
  obtain rfl : F = F' := by rw [hF] at hF'; cases hF'; rfl
  cases b6 with
  | ptr gt =>
  cases b7' with
  | ptr gs =>
  rename_i tb to tz sb so sz
  -- the row
  have hrid : ∃ rb ro rz cc, g rid = some (rb, ro, rz) ∧ v3u = .slice (some ⟨rb, ro + off, none⟩) len cc := by
    rcases sl_cases v3 with ⟨b, o, z, c, m1, m2⟩ | ⟨m1, _⟩
    · exact ⟨b, o, z, c, m1, m2⟩
    · omega
  obtain ⟨rb, ro, rz, cc, grid, rfl⟩ := hrid
  obtain ⟨usr, wr, nr, mr⟩ := CellsAt.of_rdAt r qp grid er
  obtain ⟨zs, rfl, hzs⟩ := allImm_ok qi wr
  have hlen : zs.length = len := by rw [← nr]; simp
  have livR : ∃ b, h.blk rid = some b ∧ b.live = true := by
    unfold H.rd H.cells at er
    obtain ⟨p, h1, _⟩ := ob_some.1 er
    obtain ⟨b, h2, h3⟩ := ob_some.1 h1
    exact ⟨b, h2, by cases b <;> first | rfl | cases h3⟩
  obtain ⟨br, br1, br2⟩ := livR
  have mt : CellsAt w tb to tz [] := by
    obtain ⟨b', o', z', c, t, k1, k2, k3, k4, _⟩ := r.blk td _ _ gt bt
    rw [gt] at k1
    cases k1
    exact ⟨c, t, k2, k3, Nat.zero_le _, fun j u e => by simp at e⟩
  have ms : CellsAt w sb so sz [] := by
    obtain ⟨b', o', z', c, t, k1, k2, k3, k4, _⟩ := r.blk sd _ _ gs bs
    rw [gs] at k1
    cases k1
    exact ⟨c, t, k2, k3, Nat.zero_le _, fun j u e => by simp at e⟩
  have apartK : ∀ {i : Nat} {b o z : Nat} {bi : Blk}, i ≠ k → g i = some (b, o, z) → h.blk i = some bi → bi.live = true → kb ≠ b := fun hi h1 h2 h3 h4 => by
    subst h4
    exact r.lone (fun q => hi q.symm) gk h1 b7 h2 rfl h3 (.inr rfl) (.inl rfl)
  have apartH : ∀ {i : Nat} {b o z : Nat} {bi : Blk}, i ≠ hd → g i = some (b, o, z) → h.blk i = some bi → bi.live = true → hb ≠ b := fun hi h1 h2 h3 h4 => by
    subst h4
    exact r.lone (fun q => hi q.symm) ghd h1 b8 h2 rfl h3 (.inr rfl) (.inl rfl)
  let l : Lay := ⟨kb, ko + 0, kz, hb, ho + 0, hz, tb, to + 0, tz, sb, so + 0, sz, rb, ro + off, rz - off, cc, zs, F⟩
  have o : l.Ok := ⟨apartK (fun q => d7 q.symm) ghd b8 rfl, apartK d5 grid br1 br2, apartH d6 grid br1 br2, apartK d1 gt bt rfl, apartK d3 gs bs rfl, apartH d2 gt bt rfl, apartH d4 gs bs rfl, hzs, by show 0 < zs.length; omega, by show zs.length ≤ 100000; omega, F1, F2⟩
  have i : l.In w := ⟨⟨⟨M, E, x4, x5, x6, hM, m7⟩, ⟨A0, A1, A2, A3, C0, C1, C2, C3, m8⟩⟩, mt, ms, mr⟩
  have key : Calls Tryz.prog 211 #[.pointer (some ⟨kb, ko + 0, none⟩), .int .i64 0, .slice (some ⟨rb, ro + off, none⟩) len cc] w (RoomR l w) := by
    have := room_key o i
    rw [← hlen]
    exact this
  refine prim_fn Tryz.func211 (by decide) rfl (key.mono ?_)
  rintro e' w' ⟨⟨B, p, z, rfl, hB, mB⟩, out⟩
  obtain ⟨⟨M', E', x', y', s', hM', mk'⟩, A0', A1', A2', A3', C0', C1', C2', C3', mh'⟩ := out.kh
  have hkb : kb < w.heap.size := m7.lt
  have hhb : hb < w.heap.size := m8.lt
  obtain ⟨ok, tk, hok, zk1, zk2, zk3⟩ := mk'
  obtain ⟨oh, th, hoh, zh1, zh2, zh3⟩ := mh'
  have hkh : kb ≠ hb := o.kh
  -- the keeper
  have w1h : ∀ j, j ≠ kb → (w.putObj kb (.cells ok tk (0, 0))).heap[j]? = w.heap[j]? := fun j hj => World.putObj_heap_other hj
  have w1k : (w.putObj kb (.cells ok tk (0, 0))).heap[kb]? = some (.cells ok tk (0, 0)) := World.putObj_heap_same hkb
  have x1 := Ext.swap (k' := cellsB [.ptr hd 0, fs, ul, ec, uk, uk, uk]) (w' := w.putObj kb (.cells ok tk (0, 0))) r gk b7 rfl rfl rfl (fun n cs q => by cases q) w1h World.putObj_size rfl rfl rfl
    (CellsAt.cells gk ⟨ok, tk, w1k, zk1, zk2, zk3⟩ (.cons (.ptr ghd) <| .cons (fs_vr hF F1 F2) <| .cons (.unl hM') <| .cons (hE _) <| .cons .unk <| .cons .unk <| .cons .unk .nil) (by
      intro v hv
      have hE2 : oneCell ec = true := by unfold isUb at qe; split at qe <;> first | rfl | cases qe
      simp only [List.mem_cons, List.not_mem_nil, or_false] at hv
      rcases hv with rfl | rfl | rfl | rfl | rfl | rfl | rfl <;> first | rfl | exact hE2) (by decide : (7 : Nat) ≤ 200000))
  -- the heap
  obtain ⟨w1, hw1⟩ : ∃ w1, w1 = w.putObj kb (.cells ok tk (0, 0)) := ⟨_, rfl⟩
  rw [← hw1] at x1 w1h w1k
  have s1 : w1.heap.size = w.heap.size := by rw [hw1]; exact World.putObj_size
  obtain ⟨h1, hh1⟩ : ∃ h1, h1 = (⟨h.t.put k (some (cellsB [.ptr hd 0, fs, ul, ec, uk, uk, uk])), h.next⟩ : H) := ⟨_, rfl⟩
  rw [← hh1] at x1
  have n1 : h1.next = h.next := by rw [hh1]
  have b8' : h1.blk hd = some (.cells 8 cs8 none false) := by
    rw [hh1]
    have hk : k < keys := Nat.lt_of_lt_of_le (r.dom _ _ gk) r.bound
    rw [blk_put h k hd _ _ hk, if_neg (fun q => d7 q.symm)]
    exact b8
  have w2h : ∀ j, j ≠ hb → (w1.putObj hb (.cells oh th (0, 0))).heap[j]? = w1.heap[j]? := fun j hj => World.putObj_heap_other hj
  have w2k : (w1.putObj hb (.cells oh th (0, 0))).heap[hb]? = some (.cells oh th (0, 0)) := World.putObj_heap_same (by rw [s1]; exact hhb)
  have x2 := Ext.swap (k' := cellsB [ue, ue, ue, ue, .int .i64 0, fs, .ptr td 0, .ptr sd 0]) (w' := w1.putObj hb (.cells oh th (0, 0))) x1.wr ghd b8' rfl rfl rfl (fun n cs q => by cases q) w2h World.putObj_size rfl rfl rfl
    (CellsAt.cells ghd ⟨oh, th, w2k, zh1, zh2, zh3⟩ (.cons .une <| .cons .une <| .cons .une <| .cons .une <| .cons (.int _ _) <| .cons (fs_vr hF F1 F2) <| .cons (.ptr gt) <| .cons (.ptr gs) .nil) (by
      intro v hv
      simp only [List.mem_cons, List.not_mem_nil, or_false] at hv
      rcases hv with rfl | rfl | rfl | rfl | rfl | rfl | rfl | rfl <;> rfl) (by decide : (8 : Nat) ≤ 200000))
  obtain ⟨w2, hw2⟩ : ∃ w2, w2 = w1.putObj hb (.cells oh th (0, 0)) := ⟨_, rfl⟩
  rw [← hw2] at x2 w2h w2k
  have s2 : w2.heap.size = w.heap.size := by rw [hw2, ← s1]; exact World.putObj_size
  have hroom : roomH k hd td sd ul ec h = ⟨h1.t.put hd (some (cellsB [ue, ue, ue, ue, .int .i64 0, fs, .ptr td 0, .ptr sd 0])), h1.next⟩ := by rw [hh1]; rfl
  obtain ⟨h2, hh2⟩ : ∃ h2, h2 = roomH k hd td sd ul ec h := ⟨_, rfl⟩
  rw [← hroom, ← hh2] at x2
  rw [← hh2] at eR
  obtain ⟨h3, e3, e4⟩ := ob_some.1 (show ob (h2.new (.cells len (trOf ws 0 .e) none false)) (fun h' => some (.tup [.sl h2.next 0 len 0 false 1, .int .i64 0], h')) = some (v, h') from eR)
  cases e4
  -- the row
  have still : Still w2 w' := by
    refine ⟨by rw [s2]; exact out.size, fun b hb' => ?_, ?_, ?_, ?_⟩
    · by_cases q1 : b = hb
      · subst q1; rw [w2k]; exact hoh
      · rw [w2h b q1]
        by_cases q2 : b = kb
        · subst q2; rw [w1k]; exact hok
        · rw [w1h b q2]
          exact out.keep b (by rw [s2] at hb'; exact hb') q2 q1
    · rw [out.os, hw2, hw1]; rfl
    · rw [out.tape, hw2, hw1]; rfl
    · rw [out.output, hw2, hw1]; rfl
  have hBlt : B < w'.heap.size := mB.lt
  obtain ⟨cB, tB, zB0, zB1, zB2, zB3⟩ := mB
  rw [List.length_map] at zB2
  have hnone : g h2.next = none := by
    cases hx : g h2.next with
    | none => rfl
    | some y => exact absurd (x2.wr.dom _ _ hx) (by omega)
  have hwl : ws.length = zs.length := by rw [wr.length, List.length_map]
  have big : (200000 : Nat) ≤ keys := by decide
  have x3 := Ext.newAt x2.wr still (gb := B) (po := p) (z := z) (by rw [s2]; exact hB) hBlt e3 (.inr rfl) (by
    refine ⟨B, p, z, cB, tB, gput_same _ _ _, zB0, zB1, by rw [← hlen]; exact zB2, by omega, fun j v hj hv => ?_⟩
    rw [trOf_get _ _ _ _ (by omega), if_pos (by omega), Nat.sub_zero] at hv
    obtain ⟨u, m1, m2⟩ := wr.get hv
    exact ⟨u, zB3 j u m1, m2.mono (gput_le _ hnone), allImm_one qi (List.mem_of_getElem? hv)⟩)
  refine ⟨_, _, rfl, .tup (.cons ?_ (.cons (.int _ _) .nil)), (x1.trans x2).trans x3⟩
  rw [show l.zs.length = len from hlen]
  show VR _ _ (.slice (some ⟨B, p + 0, none⟩) _ _)
  have hzz : zs.length ≤ z := zB2
  exact .sli (gput_same _ _ _) (by omega) (by omega)
end Ev
end Go.Proofs.YtogbcielgfidlaaGreatDoor
