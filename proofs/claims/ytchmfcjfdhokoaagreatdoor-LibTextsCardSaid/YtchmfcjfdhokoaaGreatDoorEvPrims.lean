/-
  What is known of the library's functions, by the shelf's contracts.
-/
import Derived.Test.YtchmfcjfdhokoaaGreatDoorEvTab1
import Derived.Test.YtchmfcjfdhokoaaGreatDoorEvShelf
namespace Go.Proofs.YtchmfcjfdhokoaaGreatDoor
namespace Ev
open Go.Shelf

theorem prim_fn {f : FuncId} {fn : Func} (h1 : Tryz.prog.funcs[f]? = some fn) (h2 : (fn.name == "runtime.NumGoroutine") = false) (h3 : fn.body.isNone = false) {us : List Value} {g : G} {h : H} {w : World} {v : V} {h' : H}
    (c : Calls Tryz.prog f us.toArray w (Post TP g h w v h')) : CallFn Tryz.prog TP f us g h w v h' :=
  ⟨fn, h1, beq_eq_false_iff_ne.1 h2, h3, callsIn_wide.2 c⟩
theorem VR.str_inv {g : G} {n c : Nat} {u : Value} (h : VR g (.str n c) u) : ∃ s : ByteArray, u = .string s ∧ s.data.toList.length = n ∧ natOf s.data.toList = c := by
  cases h
  exact ⟨_, rfl, Array.length_toList, rfl⟩
/-- Prims: what is known of one function. -/
def PrimOf (f : FuncId) (p : List V → H → Option (V × H)) : Prop :=
  ∀ vs h v h', p vs h = some (v, h') → ∀ g w us, WR TP g h w → Glob TP g h → VRs g vs us → CallFn Tryz.prog TP f us g h w v h'
theorem Calls.post {f : FuncId} {us : Array Value} {w : World} {u : Value} {g : G} {h : H} {v : V} (r : WR TP g h w) (hv : VR g v u) (c : Calls Tryz.prog f us w fun e w' => e = .returned u ∧ w' = w) : Calls Tryz.prog f us w (Post TP g h w v h) :=
  c.mono fun e w' k => ⟨g, u, k.1, hv, by rw [k.2]; exact .refl r⟩

/- strings.Contains of one byte. -/
noncomputable section
def hasB (n : Nat) : Nat → Nat → Bool := Nat.rec (motive := fun _ => Nat → Nat → Bool) (fun _ _ => false) (fun _ ih c x => Bool.rec (motive := fun _ => Bool) (ih (Nat.div c 256) x) true (Nat.beq (Nat.mod c 256) x)) n
def containsP (vs : List V) (h : H) : Option (V × H) :=
  caseL vs none fun x t => caseL t none fun y t2 => caseL t2 (asStr (fun n a => asStr (fun m b => oif (Nat.beq m 1) (some (.bool (hasB n a b), h))) y) x) fun _ _ => none
end
theorem hasB_eq (x : Nat) : ∀ l : List UInt8, hasB l.length (natOf l) x = l.any fun b => b.toNat == x
  | [] => rfl
  | b :: l => by
    show (Bool.rec (motive := fun _ => Bool) (hasB l.length (natOf (b :: l) / 256) x) true (Nat.beq (natOf (b :: l) % 256) x) : Bool) = _
    have d1 : natOf (b :: l) % 256 = b.toNat := by have := b.toNat_lt; rw [natOf_cons]; omega
    have d2 : natOf (b :: l) / 256 = natOf l := by have := b.toNat_lt; rw [natOf_cons]; omega
    rw [d1, d2, hasB_eq x l, brec_eq, List.any_cons]
    by_cases e : b.toNat = x
    · simp [e]
    · have : Nat.beq b.toNat x = false := by
        cases q : Nat.beq b.toNat x with
        | false => rfl
        | true => exact absurd (Nat.eq_of_beq_eq_true q) e
      simp [this, e]
theorem indexByte_any (c : UInt8) : ∀ l : List UInt8, decide (0 ≤ Lib.indexByte l c) = l.any fun b => b.toNat == c.toNat
  | [] => rfl
  | b :: l => by
    have ih := indexByte_any c l
    have hge := Lib.indexByte_ge l c
    rw [List.any_cons, ← ih]
    by_cases e : b = c
    · subst e; simp [Lib.indexByte]
    · have e1 : (b == c) = false := by simpa using e
      have e2 : (b.toNat == c.toNat) = false := by simpa using fun k => e (UInt8.toNat_inj.1 k)
      rw [e2, Bool.false_or]
      simp only [Lib.indexByte, e1]
      by_cases k : Lib.indexByte l c = -1
      · simp [k]
      · have k2 : (Lib.indexByte l c == -1) = false := by simpa using k
        simp only [k2]
        congr 1
        simp
        omega
theorem contains_ok : PrimOf 107 containsP := by
  intro vs h v h' e g w us r hG hv
  cases hv with
  | nil => cases e
  | cons h1 t1 =>
    cases t1 with
    | nil => cases e
    | cons h2 t2 =>
      cases t2 with
      | cons _ _ => cases e
      | nil =>
        rename_i x u1 y u2
        cases x <;> first | (cases e; done) | skip
        rename_i n a
        cases y <;> first | (cases e; done) | skip
        rename_i m b
        obtain ⟨e1, e2⟩ := oif_some.1 (show oif (Nat.beq m 1) (some (V.bool (hasB n a b), h)) = some (v, h') from e)
        cases e2
        obtain ⟨s, rfl, rfl, rfl⟩ := VR.str_inv h1
        obtain ⟨q, rfl, k1, rfl⟩ := VR.str_inv h2
        have k2 : q.data.toList.length = 1 := k1.trans (by simpa using e1)
        obtain ⟨c, hc⟩ := List.length_eq_one_iff.1 k2
        have hq : q = ⟨#[c]⟩ := by
          cases q with
          | mk d =>
            have : d = #[c] := Array.toList_inj.1 hc
            rw [this]
        have key := indexByte_any c s.data.toList
        have hb : hasB s.data.toList.length (natOf s.data.toList) (natOf q.data.toList) = decide (0 ≤ Lib.indexByte s.data.toList c) := by
          rw [hasB_eq, key, hc]
          simp [natOf_cons, natOf_nil]
        refine prim_fn Tryz.func107 (by decide) rfl ?_
        rw [hb, hq]
        exact Calls.post r (.bool _) (Tryz.strings_Contains_one s c w)

/- maps.Clone. -/
noncomputable section
def cloneP (vs : List V) (h : H) : Option (V × H) :=
  caseL vs none fun x t => caseL t (asMap none (fun id => ob (h.entries id) fun es => ob (h.new (.map es (h.ord id))) fun h' => some (.map h.next, h')) x) fun _ _ => none
end
theorem H.entries_some {h : H} {id : Nat} {es : List (V × V)} (e : h.entries id = some es) : ∃ o, h.blk id = some (.map es o) ∧ h.ord id = o := by
  unfold H.entries at e
  obtain ⟨b, e1, e2⟩ := ob_some.1 e
  cases b <;> first | (cases e2; done) | skip
  cases e2
  exact ⟨_, e1, by unfold H.ord; rw [e1]⟩
theorem clone_ok : PrimOf 151 cloneP := by
  intro vs h v h' e g w us r hG hv
  cases hv with
  | nil => cases e
  | cons h1 t1 =>
    cases t1 with
    | cons _ _ => cases e
    | nil =>
      rename_i x u1
      cases x <;> first | (cases e; done) | skip
      rename_i id
      obtain ⟨es, e1, e2⟩ := ob_some.1 (show ob (h.entries id) (fun es => ob (h.new (.map es (h.ord id))) fun h' => some (V.map h.next, h')) = some (v, h') from e)
      obtain ⟨h2, e3, e4⟩ := ob_some.1 e2
      cases e4
      obtain ⟨o, k1, k2⟩ := H.entries_some e1
      cases h1
      rename_i b o' z hg
      obtain ⟨b', o2, z', m, c, q1, q2, q3, q4⟩ := r.blk id _ _ hg k1
      rw [hg] at q1
      cases q1
      have hnew := heap_alloc_new w (.map m c)
      have hnone : g h.next = none := by
        cases q : g h.next with
        | none => rfl
        | some y => exact absurd (r.dom _ _ q) (by omega)
      have x := Ext.new (z := 0) r (o := .map m c) e3 (.inl rfl) ⟨w.heap.size, 0, 0, m, c, gput_same _ _ _, hnew, q3.mono (gput_le _ hnone), by rw [k2]; exact q4⟩
      refine prim_fn Tryz.func151 (by decide) rfl ?_
      refine (AnyW.maps_Clone Tryz.cloneM b m c w q2).mono ?_
      rintro e w' ⟨rfl, rfl⟩
      exact ⟨_, _, rfl, .map (gput_same _ _ _), x⟩

/- strconv.ParseUint of some numbers; strings.Fields of some texts. -/
noncomputable section
def puRows : List (List V × D) := [([.str 1 48, .int .i64 10, .int .i64 64], .tup [.v (.int .u64 0), .v .nili]), ([.str 1 49, .int .i64 10, .int .i64 64], .tup [.v (.int .u64 1), .v .nili]), ([.str 1 50, .int .i64 10, .int .i64 64], .tup [.v (.int .u64 2), .v .nili]), ([.str 1 51, .int .i64 10, .int .i64 64], .tup [.v (.int .u64 3), .v .nili]), ([.str 1 52, .int .i64 10, .int .i64 64], .tup [.v (.int .u64 4), .v .nili])]
def puText : List (List UInt8 × Nat) := [([48], 0), ([49], 1), ([50], 2), ([51], 3), ([52], 4)]
def parseUintP (vs : List V) (h : H) : Option (V × H) := ob (findM puRows vs) fun d => some ((d.bld h).1, h)
def strV (l : List UInt8) : V := .str l.length (natOf l)
def fiText : List (List UInt8) := [[97, 102, 116, 101, 114, 32, 97, 110, 100, 32, 97, 110, 100, 97, 108, 115, 111, 32, 98, 97, 110, 100, 32, 98, 101, 103, 105, 110, 32, 98, 110, 111, 116, 32, 98, 111, 114, 32, 98, 115, 108, 32, 98, 115, 114, 32, 98, 120, 111, 114, 32, 99, 97, 115, 101, 32, 99, 97, 116, 99, 104, 32, 100, 105, 118, 32, 101, 110, 100, 32, 102, 117, 110, 32, 110, 111, 116, 32, 111, 102, 32, 111, 114, 32, 111, 114, 101, 108, 115, 101, 32, 114, 101, 99, 101, 105, 118, 101, 32, 114, 101, 109, 32, 116, 114, 121, 32, 119, 104, 101, 110, 32, 120, 111, 114], [105, 115, 95, 105, 110, 116, 101, 103, 101, 114, 47, 49, 32, 105, 115, 95, 97, 116, 111, 109, 47, 49, 32, 105, 115, 95, 98, 111, 111, 108, 101, 97, 110, 47, 49, 32, 105, 115, 95, 116, 117, 112, 108, 101, 47, 49, 32, 105, 115, 95, 112, 105, 100, 47, 49, 32, 105, 115, 95, 114, 101, 102, 47, 49, 32, 105, 115, 95, 108, 105, 115, 116, 47, 49, 32, 105, 115, 95, 98, 105, 116, 115, 47, 49, 32, 105, 115, 95, 98, 121, 116, 101, 115, 47, 49, 32, 105, 115, 95, 102, 117, 110, 47, 49, 32, 105, 115, 95, 102, 117, 110, 47, 50, 32, 101, 108, 101, 109, 101, 110, 116, 47, 50, 32, 115, 105, 122, 101, 47, 49, 32, 104, 100, 47, 49, 32, 116, 108, 47, 49, 32, 108, 101, 110, 103, 116, 104, 47, 49, 32, 98, 105, 116, 95, 115, 105, 122, 101, 47, 49, 32, 98, 121, 116, 101, 95, 115, 105, 122, 101, 47, 49, 32, 97, 98, 115, 47, 49, 32, 109, 105, 110, 47, 50, 32, 109, 97, 120, 47, 50, 32, 115, 101, 108, 102, 47, 48, 32, 110, 111, 100, 101, 47, 48, 32, 110, 111, 100, 101, 47, 49], [115, 101, 116, 101, 108, 101, 109, 101, 110, 116, 47, 51, 32, 116, 111, 95, 108, 105, 115, 116, 47, 49, 32, 116, 111, 95, 116, 117, 112, 108, 101, 47, 49, 32, 116, 111, 95, 98, 121, 116, 101, 115, 47, 49, 32, 102, 114, 111, 109, 95, 98, 121, 116, 101, 115, 47, 49, 32, 114, 101, 118, 101, 114, 115, 101, 47, 49, 32, 109, 101, 109, 98, 101, 114, 47, 50, 32, 115, 111, 114, 116, 47, 49, 32, 112, 97, 99, 107, 47, 49, 32, 117, 110, 112, 97, 99, 107, 47, 49, 32, 101, 114, 114, 111, 114, 47, 49, 32, 101, 120, 105, 116, 47, 49, 32, 116, 104, 114, 111, 119, 47, 49, 32, 114, 97, 105, 115, 101, 47, 50], [115, 112, 97, 119, 110, 47, 49, 32, 115, 112, 97, 119, 110, 47, 51, 32, 115, 112, 97, 119, 110, 95, 108, 105, 110, 107, 47, 49, 32, 115, 112, 97, 119, 110, 95, 108, 105, 110, 107, 47, 51, 32, 115, 112, 97, 119, 110, 95, 109, 111, 110, 105, 116, 111, 114, 47, 49, 32, 115, 112, 97, 119, 110, 95, 109, 111, 110, 105, 116, 111, 114, 47, 51, 32, 114, 101, 113, 117, 101, 115, 116, 47, 52, 32, 108, 105, 110, 107, 47, 49, 32, 117, 110, 108, 105, 110, 107, 47, 49, 32, 109, 111, 110, 105, 116, 111, 114, 47, 49, 32, 100, 101, 109, 111, 110, 105, 116, 111, 114, 47, 49, 32, 101, 120, 105, 116, 47, 50, 32, 116, 114, 97, 112, 47, 49, 32, 112, 114, 105, 111, 114, 105, 116, 121, 47, 49, 32, 114, 101, 103, 105, 115, 116, 101, 114, 47, 50, 32, 117, 110, 114, 101, 103, 105, 115, 116, 101, 114, 47, 49, 32, 119, 104, 101, 114, 101, 105, 115, 47, 49, 32, 115, 101, 110, 100, 95, 97, 102, 116, 101, 114, 47, 51, 32, 99, 97, 110, 99, 101, 108, 47, 49, 32, 109, 97, 107, 101, 95, 114, 101, 102, 47, 48, 32, 99, 108, 111, 99, 107, 47, 48, 32, 115, 97, 121, 47, 49, 32, 110, 111, 100, 101, 115, 47, 48, 32, 119, 97, 116, 99, 104, 47, 49, 32, 117, 110, 119, 97, 116, 99, 104, 47, 49, 32, 116, 97, 98, 95, 110, 101, 119, 47, 49, 32, 116, 97, 98, 95, 112, 117, 116, 47, 51, 32, 116, 97, 98, 95, 103, 101, 116, 47, 50, 32, 116, 97, 98, 95, 100, 101, 108, 47, 50, 32, 116, 97, 98, 95, 110, 101, 120, 116, 47, 50, 32, 116, 97, 98, 95, 115, 105, 122, 101, 47, 49, 32, 116, 97, 98, 95, 100, 114, 111, 112, 47, 49], [97, 112, 112, 108, 121, 47, 50, 32, 97, 112, 112, 108, 121, 47, 51]]
def fiRows : List (List V × List V) := [([.str 115 3962018864413014948754648656006502432093592997329216410804218722331684167459064326731363241603392931701660348028516868103884579128723922804055349770158965106607581632881660418770906343041889274360206442574388062685891706774567976215249495650238158067786189234758106247192667745], [.str 5 491328398945, .str 3 6581857, .str 7 31370631742516833, .str 4 1684955490, .str 5 474214786402, .str 4 1953459810, .str 3 7499618, .str 3 7107426, .str 3 7500642, .str 4 1919907938, .str 4 1702060387, .str 5 448345170275, .str 3 7760228, .str 3 6581861, .str 3 7239014, .str 3 7630702, .str 2 26223, .str 2 29295, .str 6 111546414232175, .str 7 28559167692432754, .str 3 7169394, .str 3 7959156, .str 4 1852139639, .str 3 7499640]), ([.str 211 2643788049237875746027353956421256579877879755938887535316951059759369592555717365339016263365027618501812524394041916456107630935882219539062654111784106688242807265108499006909579367619711043370541396788490473410751723451644814999429197375349848118121197291676110575868848611747558760119856467310971821053183838999261785706908127509286587510957382674167142064579141726276195335717799002842036464030059972223758517794073400569462703278420382076657222687305171158147755303688062608438613618907131909108626281], [.str 12 15222125215118483699061977961, .str 9 907307969849652638569, .str 12 15222106251723425569023423337, .str 10 232270262972022045766505, .str 8 3544161835783517033, .str 8 3544164017660457833, .str 9 907309944525476033385, .str 9 907309664149843178345, .str 10 232271269812428664173417, .str 8 3544172882271630185, .str 8 3616230476309558121, .str 9 925756683084464745573, .str 6 54079635745139, .str 4 825189480, .str 4 825191540, .str 8 3544166280924652908, .str 10 232270266904966197438818, .str 11 59461188327671346293406050, .str 5 211249488481, .str 5 215544129901, .str 5 215544783213, .str 6 52980139976051, .str 6 52980122677102, .str 6 54079634304878]), ([.str 130 2309567611550875277204994674161353649923820728840937906004022259955814384767430420713629540289955323346488897252243258610309243515909333067562535498886036825999362825657067591809416156955820597497462137324242345962628091659841284438982893644934511546577333868034346565100900555615209792057877126969041213629687155], [.str 12 15841104845372956349595673971, .str 9 907309944525476032372, .str 10 232270262972022045765492, .str 10 232271269812428664172404, .str 12 15222129938427324935168815718, .str 9 907305722439364142450, .str 8 3616234805570397549, .str 6 54079886880627, .str 6 54079734899056, .str 8 3544169506344562293, .str 7 13844442401370725, .str 6 54079886293093, .str 7 13844463876204660, .str 7 14125861610021234]), ([.str 326 23432797193871199407333496422669012367299329756827031624297655228348896489652091995020903033051514005582240654107251283804193553897754980763464707855962905347494948165397241680072134641162834970075957098854109284145689297344697482720779276625903820634785204952066235328051174553452503356106246011490484894671724025188345757335091502307861111567946691652232448241457647053841496573471555992490563340102516511656375177173333262957809226356687276663106690246514868571292902185291786131212997716888408723455673227194122100111222777000526364432920838613382261280238070156172435011051979694305378415251427278940642021762430988511956155483968407454369334577920402672521885831115680086389877854951673720855015018618345684868760042338146632436122985681635754182370565935330268791689787050389619], [.str 7 13844425354604659, .str 7 14407375308025971, .str 12 15222092324719862698335105139, .str 12 15841062344362552835784667251, .str 15 255384885823674179338733177192673395, .str 15 265769479540743834595794169851113587, .str 9 962650176729576990066, .str 6 54079735621996, .str 8 3544169553723158133, .str 9 907309377224671391597, .str 11 59461427345796064319726948, .str 6 55179397920869, .str 6 54079818658420, .str 10 232271706367993068483184, .str 10 236993564237678619616626, .str 12 15222125216059160946470448757, .str 9 907309652038304229495, .str 12 15841095235698183078752970099, .str 8 3544170614479544675, .str 10 227547966578525884604781, .str 7 13562937158364259, .str 5 211249881459, .str 7 13562971550936942, .str 7 13844399250497911, .str 9 907306549280631123573, .str 9 907310773578500301172, .str 9 944203434901765251444, .str 9 925756673197214949748, .str 9 925754421384516362612, .str 10 236993713684376935620980, .str 10 232270266904966196257140, .str 10 232271056452107049787764]), ([.str 15 265770033204623512752161048958627937], [.str 7 14125947392389217, .str 7 14407422369099873])]
def fieldsP (vs : List V) (h : H) : Option (V × H) :=
  ob (findM fiRows vs) fun l => ob (cellsBlk l) fun b => ob (h.new b) fun h' => some (.sl h.next 0 (lenL l) (lenL l) true 1, h')
end
theorem still_bytes (w : World) (s : ByteArray) : Still w (Lib.bytesWorld w 5 s) := by
  unfold Lib.bytesWorld World.freeze
  refine ⟨?_, fun b hb => ?_, rfl, rfl, rfl⟩
  · show w.heap.size ≤ (Array.modify _ _ _).size
    rw [Array.size_modify]
    show w.heap.size ≤ (w.heap.push _).size
    rw [Array.size_push]
    omega
  · show (Array.modify _ _ _)[b]? = _
    rw [Array.getElem?_modify, if_neg (by show ¬ w.heap.size = b; omega)]
    show (w.heap.push _)[b]? = _
    rw [Array.getElem?_push, if_neg (by omega)]
set_option maxRecDepth 100000 in
theorem parseUint_ok : PrimOf 116 parseUintP := by
  intro vs h v h' e g w us r hG hv
  obtain ⟨d, e1, e2⟩ := ob_some.1 e
  cases e2
  have hm := findM_some e1
  have main : ∀ (l0 : List UInt8) (u : Nat), vs = [.str l0.length (natOf l0), .int .i64 10, .int .i64 64] → d = .tup [.v (.int .u64 (u : Int)), .v .nili] → Lib.parseUintB 64 l0 = .ok u → l0.length ≤ 100 → CallFn Tryz.prog TP 116 us g h w (d.bld h).1 h := by
    rintro l0 u rfl rfl hp hl
    cases hv with
    | cons h1 t1 => cases t1 with
      | cons h2 t2 => cases t2 with
        | cons h3 t3 => cases t3 with
          | nil =>
            obtain ⟨s, rfl, k1, k2⟩ := VR.str_inv h1
            have hs := natOf_inj k1 k2
            rw [h2.int_inv, h3.int_inv]
            refine prim_fn Tryz.func116 (by decide) rfl ?_
            refine (Tryz.strconv_ParseUint_10_at64_ok s (by rw [ByteArray.size, ← Array.length_toList, k1]; omega) u (by rw [hs]; exact hp) w).mono fun e w' k => ⟨g, _, k.1, .tup (.cons (.int .u64 u) (.cons .nili .nil)), ?_⟩
            rcases k.2 with rfl | rfl
            · exact .refl r
            · exact .ofStill r (still_bytes w s)
  simp only [puRows, List.mem_cons, List.not_mem_nil, or_false, Prod.mk.injEq] at hm
  rcases hm with ⟨rfl, rfl⟩ | ⟨rfl, rfl⟩ | ⟨rfl, rfl⟩ | ⟨rfl, rfl⟩ | ⟨rfl, rfl⟩
  · exact main [48] 0 rfl rfl (by decide) (by decide)
  · exact main [49] 1 rfl rfl (by decide) (by decide)
  · exact main [50] 2 rfl rfl (by decide) (by decide)
  · exact main [51] 3 rfl rfl (by decide) (by decide)
  · exact main [52] 4 rfl rfl (by decide) (by decide)
theorem tbl_at : ∀ c, c < 256 → tbl[c]? = some (.int .u8 (if Lib.isSp (UInt8.ofNat c) then 1 else 0)) := by
  have h : (List.range 256).all (fun c => match tbl[c]? with | some (.int .u8 n) => n == (if Lib.isSp (UInt8.ofNat c) then (1 : Int) else 0) | _ => false) = true := by kernel_rfl
  intro c hc
  have := List.all_eq_true.1 h c (List.mem_range.2 hc)
  split at this
  · rename_i n e
    rw [e]
    have k : n = if Lib.isSp (UInt8.ofNat c) then (1 : Int) else 0 := by simpa using this
    rw [k]
  · cases this
set_option maxRecDepth 100000 in
theorem tab_world {g : G} {h : H} {w : World} (r : WR TP g h w) (hG : Glob TP g h) : ∀ c : Nat, c < 256 → w.cell? ⟨0, c, none⟩ = some (.int .u8 (if Lib.isSp (UInt8.ofNat c) then 1 else 0)) := by
  intro c hc
  obtain ⟨⟨z, hz⟩, hb⟩ := hG (0, 0, 256, trOf tbl 0 .e) (List.mem_singleton.2 rfl)
  have hz : g 0 = some (0, 0, z) := hz
  have hb : h.blk 0 = some (.ro 256 (trOf tbl 0 .e)) := hb
  obtain ⟨b', o', z', cs, t, k1, k2, k3, k4, k5, k6⟩ := r.blk 0 _ _ hz hb
  rw [hz] at k1
  cases k1
  have hlen : tbl.length = 256 := by kernel_rfl
  have hv : (trOf tbl 0 .e).get c = some (.int .u8 (if Lib.isSp (UInt8.ofNat c) then 1 else 0)) := by
    rw [trOf_get tbl 0 .e c (by rw [hlen]; decide), if_pos (by omega)]
    exact tbl_at c hc
  obtain ⟨u, m1, m2, _⟩ := k6 c _ hc hv
  rw [m2.int_inv] at m1
  rw [Nat.zero_add] at m1
  simp [World.cell?, k2, m1]
theorem strs_ok {g : G} : ∀ l : List (List UInt8), VRs g (l.map strV) (l.map fun l => Value.string ⟨l.toArray⟩)
  | [] => .nil
  | a :: l => .cons (by have := VR.str (g := g) ⟨a.toArray⟩; simpa [strV, ByteArray.size] using this) (strs_ok l)
set_option maxRecDepth 100000 in
theorem fields_ok : PrimOf 68 fieldsP := by
  intro vs h v h' e g w us r hG hv
  obtain ⟨l, e1, e2⟩ := ob_some.1 e
  obtain ⟨b, e3, e4⟩ := ob_some.1 e2
  obtain ⟨h2, e5, e6⟩ := ob_some.1 e4
  cases e6
  have hm := findM_some e1
  have main : ∀ l0 : List UInt8, vs = [strV l0] → l = (Lib.fields l0).map strV → (l0.all fun b => b.toNat < 128) = true → Nat.ble l0.length 10000 = true → CallFn Tryz.prog TP 68 us g h w (.sl h.next 0 (lenL l) (lenL l) true 1) h' := by
    rintro l0 rfl rfl ha hl
    have hl : l0.length ≤ 10000 := by simpa using hl
    cases hv with
    | cons h1 t1 => cases t1 with
      | nil =>
        obtain ⟨s, rfl, k1, k2⟩ := VR.str_inv h1
        have hs := natOf_inj k1 k2
        have hvs := strs_ok (g := g) (Lib.fields l0)
        obtain ⟨⟨m1, m2, m3⟩, m4⟩ := cellsBlk_ok (T := TP) hvs e3
        refine prim_fn Tryz.func68 (by decide) rfl ?_
        have c := Any.strings_Fields_core Tryz.lays157 (by kernel_rfl) s w (by rw [ByteArray.size, ← Array.length_toList, k1]; omega) (by rw [hs]; intro j b hb; simpa using List.all_eq_true.1 ha b (List.mem_of_getElem? hb)) (tab_world r hG)
        rw [hs] at c
        refine c.mono ?_
        rintro e w' ⟨rfl, rfl⟩
        have hnone : g h.next = none := by
          cases q : g h.next with
          | none => rfl
          | some y => exact absurd (r.dom _ _ q) (by omega)
        have hlen : lenL ((Lib.fields l0).map strV) = (Lib.fields l0).length := by rw [lenL_eq, List.length_map]
        have x := Ext.new (z := (Lib.fields l0).length) r (o := .cells ((Lib.fields l0).map fun l => Value.string ⟨l.toArray⟩).toArray 9) e5 (.inr m1)
          (m4 9 _ _ h.next w.heap.size (gput_le _ hnone) (by rw [gput_same]; simp) (heap_alloc_new _ _))
        rw [hlen]
        exact ⟨_, _, rfl, .slx (off := 0) (gput_same _ _ _), x⟩
  simp only [fiRows, List.mem_cons, List.not_mem_nil, or_false, Prod.mk.injEq] at hm
  rcases hm with ⟨rfl, rfl⟩ | ⟨rfl, rfl⟩ | ⟨rfl, rfl⟩ | ⟨rfl, rfl⟩ | ⟨rfl, rfl⟩
  · exact main [97, 102, 116, 101, 114, 32, 97, 110, 100, 32, 97, 110, 100, 97, 108, 115, 111, 32, 98, 97, 110, 100, 32, 98, 101, 103, 105, 110, 32, 98, 110, 111, 116, 32, 98, 111, 114, 32, 98, 115, 108, 32, 98, 115, 114, 32, 98, 120, 111, 114, 32, 99, 97, 115, 101, 32, 99, 97, 116, 99, 104, 32, 100, 105, 118, 32, 101, 110, 100, 32, 102, 117, 110, 32, 110, 111, 116, 32, 111, 102, 32, 111, 114, 32, 111, 114, 101, 108, 115, 101, 32, 114, 101, 99, 101, 105, 118, 101, 32, 114, 101, 109, 32, 116, 114, 121, 32, 119, 104, 101, 110, 32, 120, 111, 114] (by kernel_rfl) (by kernel_rfl) (by kernel_rfl) (by kernel_rfl)
  · exact main [105, 115, 95, 105, 110, 116, 101, 103, 101, 114, 47, 49, 32, 105, 115, 95, 97, 116, 111, 109, 47, 49, 32, 105, 115, 95, 98, 111, 111, 108, 101, 97, 110, 47, 49, 32, 105, 115, 95, 116, 117, 112, 108, 101, 47, 49, 32, 105, 115, 95, 112, 105, 100, 47, 49, 32, 105, 115, 95, 114, 101, 102, 47, 49, 32, 105, 115, 95, 108, 105, 115, 116, 47, 49, 32, 105, 115, 95, 98, 105, 116, 115, 47, 49, 32, 105, 115, 95, 98, 121, 116, 101, 115, 47, 49, 32, 105, 115, 95, 102, 117, 110, 47, 49, 32, 105, 115, 95, 102, 117, 110, 47, 50, 32, 101, 108, 101, 109, 101, 110, 116, 47, 50, 32, 115, 105, 122, 101, 47, 49, 32, 104, 100, 47, 49, 32, 116, 108, 47, 49, 32, 108, 101, 110, 103, 116, 104, 47, 49, 32, 98, 105, 116, 95, 115, 105, 122, 101, 47, 49, 32, 98, 121, 116, 101, 95, 115, 105, 122, 101, 47, 49, 32, 97, 98, 115, 47, 49, 32, 109, 105, 110, 47, 50, 32, 109, 97, 120, 47, 50, 32, 115, 101, 108, 102, 47, 48, 32, 110, 111, 100, 101, 47, 48, 32, 110, 111, 100, 101, 47, 49] (by kernel_rfl) (by kernel_rfl) (by kernel_rfl) (by kernel_rfl)
  · exact main [115, 101, 116, 101, 108, 101, 109, 101, 110, 116, 47, 51, 32, 116, 111, 95, 108, 105, 115, 116, 47, 49, 32, 116, 111, 95, 116, 117, 112, 108, 101, 47, 49, 32, 116, 111, 95, 98, 121, 116, 101, 115, 47, 49, 32, 102, 114, 111, 109, 95, 98, 121, 116, 101, 115, 47, 49, 32, 114, 101, 118, 101, 114, 115, 101, 47, 49, 32, 109, 101, 109, 98, 101, 114, 47, 50, 32, 115, 111, 114, 116, 47, 49, 32, 112, 97, 99, 107, 47, 49, 32, 117, 110, 112, 97, 99, 107, 47, 49, 32, 101, 114, 114, 111, 114, 47, 49, 32, 101, 120, 105, 116, 47, 49, 32, 116, 104, 114, 111, 119, 47, 49, 32, 114, 97, 105, 115, 101, 47, 50] (by kernel_rfl) (by kernel_rfl) (by kernel_rfl) (by kernel_rfl)
  · exact main [115, 112, 97, 119, 110, 47, 49, 32, 115, 112, 97, 119, 110, 47, 51, 32, 115, 112, 97, 119, 110, 95, 108, 105, 110, 107, 47, 49, 32, 115, 112, 97, 119, 110, 95, 108, 105, 110, 107, 47, 51, 32, 115, 112, 97, 119, 110, 95, 109, 111, 110, 105, 116, 111, 114, 47, 49, 32, 115, 112, 97, 119, 110, 95, 109, 111, 110, 105, 116, 111, 114, 47, 51, 32, 114, 101, 113, 117, 101, 115, 116, 47, 52, 32, 108, 105, 110, 107, 47, 49, 32, 117, 110, 108, 105, 110, 107, 47, 49, 32, 109, 111, 110, 105, 116, 111, 114, 47, 49, 32, 100, 101, 109, 111, 110, 105, 116, 111, 114, 47, 49, 32, 101, 120, 105, 116, 47, 50, 32, 116, 114, 97, 112, 47, 49, 32, 112, 114, 105, 111, 114, 105, 116, 121, 47, 49, 32, 114, 101, 103, 105, 115, 116, 101, 114, 47, 50, 32, 117, 110, 114, 101, 103, 105, 115, 116, 101, 114, 47, 49, 32, 119, 104, 101, 114, 101, 105, 115, 47, 49, 32, 115, 101, 110, 100, 95, 97, 102, 116, 101, 114, 47, 51, 32, 99, 97, 110, 99, 101, 108, 47, 49, 32, 109, 97, 107, 101, 95, 114, 101, 102, 47, 48, 32, 99, 108, 111, 99, 107, 47, 48, 32, 115, 97, 121, 47, 49, 32, 110, 111, 100, 101, 115, 47, 48, 32, 119, 97, 116, 99, 104, 47, 49, 32, 117, 110, 119, 97, 116, 99, 104, 47, 49, 32, 116, 97, 98, 95, 110, 101, 119, 47, 49, 32, 116, 97, 98, 95, 112, 117, 116, 47, 51, 32, 116, 97, 98, 95, 103, 101, 116, 47, 50, 32, 116, 97, 98, 95, 100, 101, 108, 47, 50, 32, 116, 97, 98, 95, 110, 101, 120, 116, 47, 50, 32, 116, 97, 98, 95, 115, 105, 122, 101, 47, 49, 32, 116, 97, 98, 95, 100, 114, 111, 112, 47, 49] (by kernel_rfl) (by kernel_rfl) (by kernel_rfl) (by kernel_rfl)
  · exact main [97, 112, 112, 108, 121, 47, 50, 32, 97, 112, 112, 108, 121, 47, 51] (by kernel_rfl) (by kernel_rfl) (by kernel_rfl) (by kernel_rfl)
end Ev
end Go.Proofs.YtchmfcjfdhokoaaGreatDoor
