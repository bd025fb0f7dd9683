/-
  No cell of these rows narrows 'for every input' (looked for: loops, veiled, ifaces, maps, wideKeys, modest, calm, conditions, laid).
  DERIVED. THE GIVEN ROWS OF THIS SEAT. 7 by the template 'for every input the law returns true; each argument reads behind the call as it read before'; 0 by the template 'total and deterministic' (their statements: YtpfmpfmbmipglaaTotals.lean).
  GIVEN WITH THE SEED: the statements are not yours to turn. If you find one false, say at which input.
  Laid BY PROGRAM, IN A SANDBOX (cutbox-rows.mjs): the forced cells as the released guide's own fill.sh prints them over the translation 1496a4463df97a6f… (all of the seat's roots in one cut). By AI agents, Wed Nov 11 2026. No macro, syntax, notation, axiom, sorry.
-/
import Derived.Test.YtpfmpfmbmipglaaChecked
import GoSem.Claim
import GoSem.ClaimJoined
import GoSem.ClaimMapViews
import Derived.JoinedTies
import Derived.KernelRfl
namespace Go.Proofs.Ytpfmpfmbmipglaa
/- THE CELL 'sum', in the pinned program and in every row, IS THE sha256 OF THE DUMP (.gsa) THAT YtpfmpfmbmipglaaProg.lean LOADS. Nothing in Lean hashes anything: it is a label: what it is worth is what the hold of that sum in a sandbox is worth. -/
noncomputable def Try.pinned : Pinned := { name := "ytpfmpfmbmipglaa", sum := "1496a4463df97a6fa8e091c9abb4c85ad558aff77e940e709531657c12050aaa", checked := Try.checked }
namespace Rows
def none {H : Type} : Left H := { results := [], args := [] }

/-- 'stagehandlaw29.SchedShares': WHATEVER THE INPUT: true; the input reads as it did. -/
def schedSharesSpec : ChangeSpec := { name := "schedShares", fn := fun _ => fun
  | [d1, d2] => { results := [.lit (.bool true)], args := [d1, d2] }
  | _ => none }
def schedSharesRow : OpenClaim := { program := "ytpfmpfmbmipglaa", sum := "1496a4463df97a6fa8e091c9abb4c85ad558aff77e940e709531657c12050aaa", func := "stagehand/stagehandlaw29.SchedShares", spec := "schedShares", apart := false }
def SchedSharesSaid : Prop := schedSharesRow.holds Try.pinned (OpenSpec.ofChange schedSharesSpec)

/-- ITS FALSE NEIGHBOUR: 'it returns false'. Refute it at one input. -/
def schedSharesWrong : ChangeSpec := { name := "schedShares", fn := fun _ => fun
  | [d1, d2] => { results := [.lit (.bool false)], args := [d1, d2] }
  | _ => none }
def SchedSharesWrongFalsely : Prop := schedSharesRow.holds Try.pinned (OpenSpec.ofChange schedSharesWrong)

/-- 'stagehandlaw29.SchedFifo': WHATEVER THE INPUT: true; the input reads as it did. -/
def schedFifoSpec : ChangeSpec := { name := "schedFifo", fn := fun _ => fun
  | [d] => { results := [.lit (.bool true)], args := [d] }
  | _ => none }
def schedFifoRow : OpenClaim := { program := "ytpfmpfmbmipglaa", sum := "1496a4463df97a6fa8e091c9abb4c85ad558aff77e940e709531657c12050aaa", func := "stagehand/stagehandlaw29.SchedFifo", spec := "schedFifo", apart := false }
def SchedFifoSaid : Prop := schedFifoRow.holds Try.pinned (OpenSpec.ofChange schedFifoSpec)

/-- ITS FALSE NEIGHBOUR: 'it returns false'. Refute it at one input. -/
def schedFifoWrong : ChangeSpec := { name := "schedFifo", fn := fun _ => fun
  | [d] => { results := [.lit (.bool false)], args := [d] }
  | _ => none }
def SchedFifoWrongFalsely : Prop := schedFifoRow.holds Try.pinned (OpenSpec.ofChange schedFifoWrong)

/-- 'stagehandlaw29.SchedOnce': WHATEVER THE INPUT: true; the input reads as it did. -/
def schedOnceSpec : ChangeSpec := { name := "schedOnce", fn := fun _ => fun
  | [d] => { results := [.lit (.bool true)], args := [d] }
  | _ => none }
def schedOnceRow : OpenClaim := { program := "ytpfmpfmbmipglaa", sum := "1496a4463df97a6fa8e091c9abb4c85ad558aff77e940e709531657c12050aaa", func := "stagehand/stagehandlaw29.SchedOnce", spec := "schedOnce", apart := false }
def SchedOnceSaid : Prop := schedOnceRow.holds Try.pinned (OpenSpec.ofChange schedOnceSpec)

/-- ITS FALSE NEIGHBOUR: 'it returns false'. Refute it at one input. -/
def schedOnceWrong : ChangeSpec := { name := "schedOnce", fn := fun _ => fun
  | [d] => { results := [.lit (.bool false)], args := [d] }
  | _ => none }
def SchedOnceWrongFalsely : Prop := schedOnceRow.holds Try.pinned (OpenSpec.ofChange schedOnceWrong)

/-- 'stagehandlaw29.SchedStarves': WHATEVER THE INPUT: true; the input reads as it did. -/
def schedStarvesSpec : ChangeSpec := { name := "schedStarves", fn := fun _ => fun
  | [d1, d2] => { results := [.lit (.bool true)], args := [d1, d2] }
  | _ => none }
def schedStarvesRow : OpenClaim := { program := "ytpfmpfmbmipglaa", sum := "1496a4463df97a6fa8e091c9abb4c85ad558aff77e940e709531657c12050aaa", func := "stagehand/stagehandlaw29.SchedStarves", spec := "schedStarves", apart := false }
def SchedStarvesSaid : Prop := schedStarvesRow.holds Try.pinned (OpenSpec.ofChange schedStarvesSpec)

/-- ITS FALSE NEIGHBOUR: 'it returns false'. Refute it at one input. -/
def schedStarvesWrong : ChangeSpec := { name := "schedStarves", fn := fun _ => fun
  | [d1, d2] => { results := [.lit (.bool false)], args := [d1, d2] }
  | _ => none }
def SchedStarvesWrongFalsely : Prop := schedStarvesRow.holds Try.pinned (OpenSpec.ofChange schedStarvesWrong)

/-- 'stagehandlaw29.SchedDrops': WHATEVER THE INPUT: true; the input reads as it did. -/
def schedDropsSpec : ChangeSpec := { name := "schedDrops", fn := fun _ => fun
  | [d1, d2] => { results := [.lit (.bool true)], args := [d1, d2] }
  | _ => none }
def schedDropsRow : OpenClaim := { program := "ytpfmpfmbmipglaa", sum := "1496a4463df97a6fa8e091c9abb4c85ad558aff77e940e709531657c12050aaa", func := "stagehand/stagehandlaw29.SchedDrops", spec := "schedDrops", apart := false }
def SchedDropsSaid : Prop := schedDropsRow.holds Try.pinned (OpenSpec.ofChange schedDropsSpec)

/-- ITS FALSE NEIGHBOUR: 'it returns false'. Refute it at one input. -/
def schedDropsWrong : ChangeSpec := { name := "schedDrops", fn := fun _ => fun
  | [d1, d2] => { results := [.lit (.bool false)], args := [d1, d2] }
  | _ => none }
def SchedDropsWrongFalsely : Prop := schedDropsRow.holds Try.pinned (OpenSpec.ofChange schedDropsWrong)

/-- 'stagehandlaw29.SchedPlays': WHATEVER THE INPUT: true; the input reads as it did. -/
def schedPlaysSpec : ChangeSpec := { name := "schedPlays", fn := fun _ => fun
  | [d] => { results := [.lit (.bool true)], args := [d] }
  | _ => none }
def schedPlaysRow : OpenClaim := { program := "ytpfmpfmbmipglaa", sum := "1496a4463df97a6fa8e091c9abb4c85ad558aff77e940e709531657c12050aaa", func := "stagehand/stagehandlaw29.SchedPlays", spec := "schedPlays", apart := false }
def SchedPlaysSaid : Prop := schedPlaysRow.holds Try.pinned (OpenSpec.ofChange schedPlaysSpec)

/-- ITS FALSE NEIGHBOUR: 'it returns false'. Refute it at one input. -/
def schedPlaysWrong : ChangeSpec := { name := "schedPlays", fn := fun _ => fun
  | [d] => { results := [.lit (.bool false)], args := [d] }
  | _ => none }
def SchedPlaysWrongFalsely : Prop := schedPlaysRow.holds Try.pinned (OpenSpec.ofChange schedPlaysWrong)

/-- 'stagehandlaw29.SchedKnown': WHATEVER THE INPUT: true; the input reads as it did. -/
def schedKnownSpec : ChangeSpec := { name := "schedKnown", fn := fun _ => fun
  | [] => { results := [.lit (.bool true)], args := [] }
  | _ => none }
def schedKnownRow : OpenClaim := { program := "ytpfmpfmbmipglaa", sum := "1496a4463df97a6fa8e091c9abb4c85ad558aff77e940e709531657c12050aaa", func := "stagehand/stagehandlaw29.SchedKnown", spec := "schedKnown", apart := false }
def SchedKnownSaid : Prop := schedKnownRow.holds Try.pinned (OpenSpec.ofChange schedKnownSpec)

/-- ITS FALSE NEIGHBOUR: 'it returns false'. Refute it at one input. -/
def schedKnownWrong : ChangeSpec := { name := "schedKnown", fn := fun _ => fun
  | [] => { results := [.lit (.bool false)], args := [] }
  | _ => none }
def SchedKnownWrongFalsely : Prop := schedKnownRow.holds Try.pinned (OpenSpec.ofChange schedKnownWrong)

/- THE SECOND FORM. 'bulk': how many values and letters a reading holds, each counted each time it is reached (what is shared counts as often as it is met; a slice's spare places count too). A statement '..UptoSaid' is the law's where the arguments, and the package variables that the reading takes, are together of bulk at most 1048576: NARROWER than '..Said'. Prove '..Said' where nothing that the law and all that it calls make is longer than what came in: it says more and counts as full. Else prove '..UptoSaid'. A law counts once. -/
mutual
def uptoBulk {H : Type} : DataW H → Nat
  | .lit (.string bytes) => bytes.length + 1
  | .lit _ => 1
  | .nil => 1
  | .ptr d => uptoBulk d + 1
  | .slice elems spare => uptoBulkAll elems + uptoBulkAll spare + 1
  | .agg parts => uptoBulkAll parts + 1
  | .iface _ d => uptoBulk d + 1
  | .map entries => uptoBulkEntries entries + 1
  | .held _ => 1
def uptoBulkAll {H : Type} : List (DataW H) → Nat
  | [] => 0
  | d :: r => uptoBulk d + uptoBulkAll r
def uptoBulkEntries {H : Type} : List (Lit × DataW H) → Nat
  | [] => 0
  | x :: r => uptoBulkEntry x + uptoBulkEntries r
def uptoBulkEntry {H : Type} : Lit × DataW H → Nat
  | (.string bytes, d) => bytes.length + uptoBulk d + 1
  | (_, d) => uptoBulk d + 1
 end
def uptoSmall : (H : Type) → List (DataW H) → Bool := fun _ ds => decide (uptoBulkAll ds ≤ 1048576)
def OpenSpec.upto (s : _root_.Go.ChangeSpec) : _root_.Go.OpenSpec := { _root_.Go.OpenSpec.ofChange s with cond := some uptoSmall }

/-- 'stagehandlaw29.SchedShares', WHERE WHAT IT READS IS OF BULK AT MOST 1048576: true; the input reads as it did. -/
def schedSharesUptoRow : OpenClaim := { program := "ytpfmpfmbmipglaa", sum := "1496a4463df97a6fa8e091c9abb4c85ad558aff77e940e709531657c12050aaa", func := "stagehand/stagehandlaw29.SchedShares", spec := "schedShares", apart := false, narrowed := true }
def SchedSharesUptoSaid : Prop := schedSharesUptoRow.holds Try.pinned (OpenSpec.upto schedSharesSpec)

/-- 'stagehandlaw29.SchedFifo', WHERE WHAT IT READS IS OF BULK AT MOST 1048576: true; the input reads as it did. -/
def schedFifoUptoRow : OpenClaim := { program := "ytpfmpfmbmipglaa", sum := "1496a4463df97a6fa8e091c9abb4c85ad558aff77e940e709531657c12050aaa", func := "stagehand/stagehandlaw29.SchedFifo", spec := "schedFifo", apart := false, narrowed := true }
def SchedFifoUptoSaid : Prop := schedFifoUptoRow.holds Try.pinned (OpenSpec.upto schedFifoSpec)

/-- 'stagehandlaw29.SchedOnce', WHERE WHAT IT READS IS OF BULK AT MOST 1048576: true; the input reads as it did. -/
def schedOnceUptoRow : OpenClaim := { program := "ytpfmpfmbmipglaa", sum := "1496a4463df97a6fa8e091c9abb4c85ad558aff77e940e709531657c12050aaa", func := "stagehand/stagehandlaw29.SchedOnce", spec := "schedOnce", apart := false, narrowed := true }
def SchedOnceUptoSaid : Prop := schedOnceUptoRow.holds Try.pinned (OpenSpec.upto schedOnceSpec)

/-- 'stagehandlaw29.SchedStarves', WHERE WHAT IT READS IS OF BULK AT MOST 1048576: true; the input reads as it did. -/
def schedStarvesUptoRow : OpenClaim := { program := "ytpfmpfmbmipglaa", sum := "1496a4463df97a6fa8e091c9abb4c85ad558aff77e940e709531657c12050aaa", func := "stagehand/stagehandlaw29.SchedStarves", spec := "schedStarves", apart := false, narrowed := true }
def SchedStarvesUptoSaid : Prop := schedStarvesUptoRow.holds Try.pinned (OpenSpec.upto schedStarvesSpec)

/-- 'stagehandlaw29.SchedDrops', WHERE WHAT IT READS IS OF BULK AT MOST 1048576: true; the input reads as it did. -/
def schedDropsUptoRow : OpenClaim := { program := "ytpfmpfmbmipglaa", sum := "1496a4463df97a6fa8e091c9abb4c85ad558aff77e940e709531657c12050aaa", func := "stagehand/stagehandlaw29.SchedDrops", spec := "schedDrops", apart := false, narrowed := true }
def SchedDropsUptoSaid : Prop := schedDropsUptoRow.holds Try.pinned (OpenSpec.upto schedDropsSpec)

/-- 'stagehandlaw29.SchedPlays', WHERE WHAT IT READS IS OF BULK AT MOST 1048576: true; the input reads as it did. -/
def schedPlaysUptoRow : OpenClaim := { program := "ytpfmpfmbmipglaa", sum := "1496a4463df97a6fa8e091c9abb4c85ad558aff77e940e709531657c12050aaa", func := "stagehand/stagehandlaw29.SchedPlays", spec := "schedPlays", apart := false, narrowed := true }
def SchedPlaysUptoSaid : Prop := schedPlaysUptoRow.holds Try.pinned (OpenSpec.upto schedPlaysSpec)

/-- 'stagehandlaw29.SchedKnown', WHERE WHAT IT READS IS OF BULK AT MOST 1048576: true; the input reads as it did. -/
def schedKnownUptoRow : OpenClaim := { program := "ytpfmpfmbmipglaa", sum := "1496a4463df97a6fa8e091c9abb4c85ad558aff77e940e709531657c12050aaa", func := "stagehand/stagehandlaw29.SchedKnown", spec := "schedKnown", apart := false, narrowed := true }
def SchedKnownUptoSaid : Prop := schedKnownUptoRow.holds Try.pinned (OpenSpec.upto schedKnownSpec)

end Rows
end Go.Proofs.Ytpfmpfmbmipglaa
