/-
  No cell of these rows narrows 'for every input' (looked for: loops, veiled, ifaces, maps, wideKeys, modest, calm, conditions, laid).
  DERIVED. THE GIVEN ROWS OF THIS SEAT. 12 by the template 'for every input the law returns true; each argument reads behind the call as it read before'; 0 by the template 'total and deterministic' (their statements: YtdgikheibcmcjaaTotals.lean).
  GIVEN WITH THE SEED: the statements are not yours to turn. If you find one false, say at which input.
  Laid BY PROGRAM, IN A SANDBOX (cutbox-rows.mjs): the forced cells as the released guide's own fill.sh prints them over the translation f75c72c219d61994… (all of the seat's roots in one cut). By AI agents, Wed Nov 11 2026. No macro, syntax, notation, axiom, sorry.
-/
import Derived.Test.YtdgikheibcmcjaaChecked
import GoSem.Claim
import GoSem.ClaimJoined
import GoSem.ClaimMapViews
import Derived.JoinedTies
import Derived.KernelRfl
namespace Go.Proofs.Ytdgikheibcmcjaa
/- THE CELL 'sum', in the pinned program and in every row, IS THE sha256 OF THE DUMP (.gsa) THAT YtdgikheibcmcjaaProg.lean LOADS. Nothing in Lean hashes anything: it is a label: what it is worth is what the hold of that sum in a sandbox is worth. -/
noncomputable def Try.pinned : Pinned := { name := "ytdgikheibcmcjaa", sum := "f75c72c219d61994476c9744e984a7b12980860a1d66aa3ec9539053e74a1fb1", checked := Try.checked }
namespace Rows
def none {H : Type} : Left H := { results := [], args := [] }

/-- 'laws.FnExactValueBytes': WHATEVER THE INPUT: true; the input reads as it did. -/
def fnExactValueBytesSpec : ChangeSpec := { name := "fnExactValueBytes", fn := fun _ => fun
  | [d] => { results := [.lit (.bool true)], args := [d] }
  | _ => none }
def fnExactValueBytesRow : OpenClaim := { program := "ytdgikheibcmcjaa", sum := "f75c72c219d61994476c9744e984a7b12980860a1d66aa3ec9539053e74a1fb1", func := "loop.example/tablehouse/laws.FnExactValueBytes", spec := "fnExactValueBytes", apart := false }
def FnExactValueBytesSaid : Prop := fnExactValueBytesRow.holds Try.pinned (OpenSpec.ofChange fnExactValueBytesSpec)

/-- ITS FALSE NEIGHBOUR: 'it returns false'. Refute it at one input. -/
def fnExactValueBytesWrong : ChangeSpec := { name := "fnExactValueBytes", fn := fun _ => fun
  | [d] => { results := [.lit (.bool false)], args := [d] }
  | _ => none }
def FnExactValueBytesWrongFalsely : Prop := fnExactValueBytesRow.holds Try.pinned (OpenSpec.ofChange fnExactValueBytesWrong)

/-- 'laws.FnExactValueOrder': WHATEVER THE INPUT: true; the input reads as it did. -/
def fnExactValueOrderSpec : ChangeSpec := { name := "fnExactValueOrder", fn := fun _ => fun
  | [d1, d2] => { results := [.lit (.bool true)], args := [d1, d2] }
  | _ => none }
def fnExactValueOrderRow : OpenClaim := { program := "ytdgikheibcmcjaa", sum := "f75c72c219d61994476c9744e984a7b12980860a1d66aa3ec9539053e74a1fb1", func := "loop.example/tablehouse/laws.FnExactValueOrder", spec := "fnExactValueOrder", apart := false }
def FnExactValueOrderSaid : Prop := fnExactValueOrderRow.holds Try.pinned (OpenSpec.ofChange fnExactValueOrderSpec)

/-- ITS FALSE NEIGHBOUR: 'it returns false'. Refute it at one input. -/
def fnExactValueOrderWrong : ChangeSpec := { name := "fnExactValueOrder", fn := fun _ => fun
  | [d1, d2] => { results := [.lit (.bool false)], args := [d1, d2] }
  | _ => none }
def FnExactValueOrderWrongFalsely : Prop := fnExactValueOrderRow.holds Try.pinned (OpenSpec.ofChange fnExactValueOrderWrong)

/-- 'laws.FnExactValueFrom': WHATEVER THE INPUT: true; the input reads as it did. -/
def fnExactValueFromSpec : ChangeSpec := { name := "fnExactValueFrom", fn := fun _ => fun
  | [d] => { results := [.lit (.bool true)], args := [d] }
  | _ => none }
def fnExactValueFromRow : OpenClaim := { program := "ytdgikheibcmcjaa", sum := "f75c72c219d61994476c9744e984a7b12980860a1d66aa3ec9539053e74a1fb1", func := "loop.example/tablehouse/laws.FnExactValueFrom", spec := "fnExactValueFrom", apart := false }
def FnExactValueFromSaid : Prop := fnExactValueFromRow.holds Try.pinned (OpenSpec.ofChange fnExactValueFromSpec)

/-- ITS FALSE NEIGHBOUR: 'it returns false'. Refute it at one input. -/
def fnExactValueFromWrong : ChangeSpec := { name := "fnExactValueFrom", fn := fun _ => fun
  | [d] => { results := [.lit (.bool false)], args := [d] }
  | _ => none }
def FnExactValueFromWrongFalsely : Prop := fnExactValueFromRow.holds Try.pinned (OpenSpec.ofChange fnExactValueFromWrong)

/-- 'laws.FnExactTruthOf': WHATEVER THE INPUT: true; the input reads as it did. -/
def fnExactTruthOfSpec : ChangeSpec := { name := "fnExactTruthOf", fn := fun _ => fun
  | [d] => { results := [.lit (.bool true)], args := [d] }
  | _ => none }
def fnExactTruthOfRow : OpenClaim := { program := "ytdgikheibcmcjaa", sum := "f75c72c219d61994476c9744e984a7b12980860a1d66aa3ec9539053e74a1fb1", func := "loop.example/tablehouse/laws.FnExactTruthOf", spec := "fnExactTruthOf", apart := false }
def FnExactTruthOfSaid : Prop := fnExactTruthOfRow.holds Try.pinned (OpenSpec.ofChange fnExactTruthOfSpec)

/-- ITS FALSE NEIGHBOUR: 'it returns false'. Refute it at one input. -/
def fnExactTruthOfWrong : ChangeSpec := { name := "fnExactTruthOf", fn := fun _ => fun
  | [d] => { results := [.lit (.bool false)], args := [d] }
  | _ => none }
def FnExactTruthOfWrongFalsely : Prop := fnExactTruthOfRow.holds Try.pinned (OpenSpec.ofChange fnExactTruthOfWrong)

/-- 'laws.FnExactKnownOf': WHATEVER THE INPUT: true; the input reads as it did. -/
def fnExactKnownOfSpec : ChangeSpec := { name := "fnExactKnownOf", fn := fun _ => fun
  | [d] => { results := [.lit (.bool true)], args := [d] }
  | _ => none }
def fnExactKnownOfRow : OpenClaim := { program := "ytdgikheibcmcjaa", sum := "f75c72c219d61994476c9744e984a7b12980860a1d66aa3ec9539053e74a1fb1", func := "loop.example/tablehouse/laws.FnExactKnownOf", spec := "fnExactKnownOf", apart := false }
def FnExactKnownOfSaid : Prop := fnExactKnownOfRow.holds Try.pinned (OpenSpec.ofChange fnExactKnownOfSpec)

/-- ITS FALSE NEIGHBOUR: 'it returns false'. Refute it at one input. -/
def fnExactKnownOfWrong : ChangeSpec := { name := "fnExactKnownOf", fn := fun _ => fun
  | [d] => { results := [.lit (.bool false)], args := [d] }
  | _ => none }
def FnExactKnownOfWrongFalsely : Prop := fnExactKnownOfRow.holds Try.pinned (OpenSpec.ofChange fnExactKnownOfWrong)

/-- 'laws.FnExactBucketOf': WHATEVER THE INPUT: true; the input reads as it did. -/
def fnExactBucketOfSpec : ChangeSpec := { name := "fnExactBucketOf", fn := fun _ => fun
  | [d1, d2] => { results := [.lit (.bool true)], args := [d1, d2] }
  | _ => none }
def fnExactBucketOfRow : OpenClaim := { program := "ytdgikheibcmcjaa", sum := "f75c72c219d61994476c9744e984a7b12980860a1d66aa3ec9539053e74a1fb1", func := "loop.example/tablehouse/laws.FnExactBucketOf", spec := "fnExactBucketOf", apart := false }
def FnExactBucketOfSaid : Prop := fnExactBucketOfRow.holds Try.pinned (OpenSpec.ofChange fnExactBucketOfSpec)

/-- ITS FALSE NEIGHBOUR: 'it returns false'. Refute it at one input. -/
def fnExactBucketOfWrong : ChangeSpec := { name := "fnExactBucketOf", fn := fun _ => fun
  | [d1, d2] => { results := [.lit (.bool false)], args := [d1, d2] }
  | _ => none }
def FnExactBucketOfWrongFalsely : Prop := fnExactBucketOfRow.holds Try.pinned (OpenSpec.ofChange fnExactBucketOfWrong)

/-- 'laws.FnTruthOf': WHATEVER THE INPUT: true; the input reads as it did. -/
def fnTruthOfSpec : ChangeSpec := { name := "fnTruthOf", fn := fun _ => fun
  | [d] => { results := [.lit (.bool true)], args := [d] }
  | _ => none }
def fnTruthOfRow : OpenClaim := { program := "ytdgikheibcmcjaa", sum := "f75c72c219d61994476c9744e984a7b12980860a1d66aa3ec9539053e74a1fb1", func := "loop.example/tablehouse/laws.FnTruthOf", spec := "fnTruthOf", apart := false }
def FnTruthOfSaid : Prop := fnTruthOfRow.holds Try.pinned (OpenSpec.ofChange fnTruthOfSpec)

/-- ITS FALSE NEIGHBOUR: 'it returns false'. Refute it at one input. -/
def fnTruthOfWrong : ChangeSpec := { name := "fnTruthOf", fn := fun _ => fun
  | [d] => { results := [.lit (.bool false)], args := [d] }
  | _ => none }
def FnTruthOfWrongFalsely : Prop := fnTruthOfRow.holds Try.pinned (OpenSpec.ofChange fnTruthOfWrong)

/-- 'laws.FnBucketOf': WHATEVER THE INPUT: true; the input reads as it did. -/
def fnBucketOfSpec : ChangeSpec := { name := "fnBucketOf", fn := fun _ => fun
  | [d] => { results := [.lit (.bool true)], args := [d] }
  | _ => none }
def fnBucketOfRow : OpenClaim := { program := "ytdgikheibcmcjaa", sum := "f75c72c219d61994476c9744e984a7b12980860a1d66aa3ec9539053e74a1fb1", func := "loop.example/tablehouse/laws.FnBucketOf", spec := "fnBucketOf", apart := false }
def FnBucketOfSaid : Prop := fnBucketOfRow.holds Try.pinned (OpenSpec.ofChange fnBucketOfSpec)

/-- ITS FALSE NEIGHBOUR: 'it returns false'. Refute it at one input. -/
def fnBucketOfWrong : ChangeSpec := { name := "fnBucketOf", fn := fun _ => fun
  | [d] => { results := [.lit (.bool false)], args := [d] }
  | _ => none }
def FnBucketOfWrongFalsely : Prop := fnBucketOfRow.holds Try.pinned (OpenSpec.ofChange fnBucketOfWrong)

/-- 'laws.FnValueBytes': WHATEVER THE INPUT: true; the input reads as it did. -/
def fnValueBytesSpec : ChangeSpec := { name := "fnValueBytes", fn := fun _ => fun
  | [d] => { results := [.lit (.bool true)], args := [d] }
  | _ => none }
def fnValueBytesRow : OpenClaim := { program := "ytdgikheibcmcjaa", sum := "f75c72c219d61994476c9744e984a7b12980860a1d66aa3ec9539053e74a1fb1", func := "loop.example/tablehouse/laws.FnValueBytes", spec := "fnValueBytes", apart := false }
def FnValueBytesSaid : Prop := fnValueBytesRow.holds Try.pinned (OpenSpec.ofChange fnValueBytesSpec)

/-- ITS FALSE NEIGHBOUR: 'it returns false'. Refute it at one input. -/
def fnValueBytesWrong : ChangeSpec := { name := "fnValueBytes", fn := fun _ => fun
  | [d] => { results := [.lit (.bool false)], args := [d] }
  | _ => none }
def FnValueBytesWrongFalsely : Prop := fnValueBytesRow.holds Try.pinned (OpenSpec.ofChange fnValueBytesWrong)

/-- 'laws.FnValueOrder': WHATEVER THE INPUT: true; the input reads as it did. -/
def fnValueOrderSpec : ChangeSpec := { name := "fnValueOrder", fn := fun _ => fun
  | [d] => { results := [.lit (.bool true)], args := [d] }
  | _ => none }
def fnValueOrderRow : OpenClaim := { program := "ytdgikheibcmcjaa", sum := "f75c72c219d61994476c9744e984a7b12980860a1d66aa3ec9539053e74a1fb1", func := "loop.example/tablehouse/laws.FnValueOrder", spec := "fnValueOrder", apart := false }
def FnValueOrderSaid : Prop := fnValueOrderRow.holds Try.pinned (OpenSpec.ofChange fnValueOrderSpec)

/-- ITS FALSE NEIGHBOUR: 'it returns false'. Refute it at one input. -/
def fnValueOrderWrong : ChangeSpec := { name := "fnValueOrder", fn := fun _ => fun
  | [d] => { results := [.lit (.bool false)], args := [d] }
  | _ => none }
def FnValueOrderWrongFalsely : Prop := fnValueOrderRow.holds Try.pinned (OpenSpec.ofChange fnValueOrderWrong)

/-- 'laws.FnValueFrom': WHATEVER THE INPUT: true; the input reads as it did. -/
def fnValueFromSpec : ChangeSpec := { name := "fnValueFrom", fn := fun _ => fun
  | [d] => { results := [.lit (.bool true)], args := [d] }
  | _ => none }
def fnValueFromRow : OpenClaim := { program := "ytdgikheibcmcjaa", sum := "f75c72c219d61994476c9744e984a7b12980860a1d66aa3ec9539053e74a1fb1", func := "loop.example/tablehouse/laws.FnValueFrom", spec := "fnValueFrom", apart := false }
def FnValueFromSaid : Prop := fnValueFromRow.holds Try.pinned (OpenSpec.ofChange fnValueFromSpec)

/-- ITS FALSE NEIGHBOUR: 'it returns false'. Refute it at one input. -/
def fnValueFromWrong : ChangeSpec := { name := "fnValueFrom", fn := fun _ => fun
  | [d] => { results := [.lit (.bool false)], args := [d] }
  | _ => none }
def FnValueFromWrongFalsely : Prop := fnValueFromRow.holds Try.pinned (OpenSpec.ofChange fnValueFromWrong)

/-- 'laws.FnExactCompare': WHATEVER THE INPUT: true; the input reads as it did. -/
def fnExactCompareSpec : ChangeSpec := { name := "fnExactCompare", fn := fun _ => fun
  | [d1, d2, d3] => { results := [.lit (.bool true)], args := [d1, d2, d3] }
  | _ => none }
def fnExactCompareRow : OpenClaim := { program := "ytdgikheibcmcjaa", sum := "f75c72c219d61994476c9744e984a7b12980860a1d66aa3ec9539053e74a1fb1", func := "loop.example/tablehouse/laws.FnExactCompare", spec := "fnExactCompare", apart := false }
def FnExactCompareSaid : Prop := fnExactCompareRow.holds Try.pinned (OpenSpec.ofChange fnExactCompareSpec)

/-- ITS FALSE NEIGHBOUR: 'it returns false'. Refute it at one input. -/
def fnExactCompareWrong : ChangeSpec := { name := "fnExactCompare", fn := fun _ => fun
  | [d1, d2, d3] => { results := [.lit (.bool false)], args := [d1, d2, d3] }
  | _ => none }
def FnExactCompareWrongFalsely : Prop := fnExactCompareRow.holds Try.pinned (OpenSpec.ofChange fnExactCompareWrong)

/- THE SECOND FORM. 'bulk': how many values and letters a reading holds, each counted each time it is reached (what is shared counts as often as it is met; a slice's spare places count too). A statement '..UptoSaid' is the law's where the arguments, and the package variables that the reading takes, are together of bulk at most 1048576: NARROWER than '..Said'. Prove '..Said' where nothing that the law and all that it calls make is longer than what came in: it says more and counts as full. Else prove '..UptoSaid'. A law counts once. -/
mutual
def uptoBulk {H : Type} : DataW H → Nat
  | .lit (.string bytes) => bytes.length + 1
  | .lit _ => 1
  | .nil => 1
  | .ptr d => uptoBulk d + 1
  | .slice elems spare => uptoBulkAll elems + uptoBulkAll spare + 1
  | .agg parts => uptoBulkAll parts + 1
  | .iface _ d => uptoBulk d + 1
  | .map entries => uptoBulkEntries entries + 1
  | .held _ => 1
def uptoBulkAll {H : Type} : List (DataW H) → Nat
  | [] => 0
  | d :: r => uptoBulk d + uptoBulkAll r
def uptoBulkEntries {H : Type} : List (Lit × DataW H) → Nat
  | [] => 0
  | x :: r => uptoBulkEntry x + uptoBulkEntries r
def uptoBulkEntry {H : Type} : Lit × DataW H → Nat
  | (.string bytes, d) => bytes.length + uptoBulk d + 1
  | (_, d) => uptoBulk d + 1
 end
def uptoSmall : (H : Type) → List (DataW H) → Bool := fun _ ds => decide (uptoBulkAll ds ≤ 1048576)
def OpenSpec.upto (s : _root_.Go.ChangeSpec) : _root_.Go.OpenSpec := { _root_.Go.OpenSpec.ofChange s with cond := some uptoSmall }

/-- 'laws.FnExactValueBytes', WHERE WHAT IT READS IS OF BULK AT MOST 1048576: true; the input reads as it did. -/
def fnExactValueBytesUptoRow : OpenClaim := { program := "ytdgikheibcmcjaa", sum := "f75c72c219d61994476c9744e984a7b12980860a1d66aa3ec9539053e74a1fb1", func := "loop.example/tablehouse/laws.FnExactValueBytes", spec := "fnExactValueBytes", apart := false, narrowed := true }
def FnExactValueBytesUptoSaid : Prop := fnExactValueBytesUptoRow.holds Try.pinned (OpenSpec.upto fnExactValueBytesSpec)

/-- 'laws.FnExactValueOrder', WHERE WHAT IT READS IS OF BULK AT MOST 1048576: true; the input reads as it did. -/
def fnExactValueOrderUptoRow : OpenClaim := { program := "ytdgikheibcmcjaa", sum := "f75c72c219d61994476c9744e984a7b12980860a1d66aa3ec9539053e74a1fb1", func := "loop.example/tablehouse/laws.FnExactValueOrder", spec := "fnExactValueOrder", apart := false, narrowed := true }
def FnExactValueOrderUptoSaid : Prop := fnExactValueOrderUptoRow.holds Try.pinned (OpenSpec.upto fnExactValueOrderSpec)

/-- 'laws.FnExactValueFrom', WHERE WHAT IT READS IS OF BULK AT MOST 1048576: true; the input reads as it did. -/
def fnExactValueFromUptoRow : OpenClaim := { program := "ytdgikheibcmcjaa", sum := "f75c72c219d61994476c9744e984a7b12980860a1d66aa3ec9539053e74a1fb1", func := "loop.example/tablehouse/laws.FnExactValueFrom", spec := "fnExactValueFrom", apart := false, narrowed := true }
def FnExactValueFromUptoSaid : Prop := fnExactValueFromUptoRow.holds Try.pinned (OpenSpec.upto fnExactValueFromSpec)

/-- 'laws.FnExactTruthOf', WHERE WHAT IT READS IS OF BULK AT MOST 1048576: true; the input reads as it did. -/
def fnExactTruthOfUptoRow : OpenClaim := { program := "ytdgikheibcmcjaa", sum := "f75c72c219d61994476c9744e984a7b12980860a1d66aa3ec9539053e74a1fb1", func := "loop.example/tablehouse/laws.FnExactTruthOf", spec := "fnExactTruthOf", apart := false, narrowed := true }
def FnExactTruthOfUptoSaid : Prop := fnExactTruthOfUptoRow.holds Try.pinned (OpenSpec.upto fnExactTruthOfSpec)

/-- 'laws.FnExactKnownOf', WHERE WHAT IT READS IS OF BULK AT MOST 1048576: true; the input reads as it did. -/
def fnExactKnownOfUptoRow : OpenClaim := { program := "ytdgikheibcmcjaa", sum := "f75c72c219d61994476c9744e984a7b12980860a1d66aa3ec9539053e74a1fb1", func := "loop.example/tablehouse/laws.FnExactKnownOf", spec := "fnExactKnownOf", apart := false, narrowed := true }
def FnExactKnownOfUptoSaid : Prop := fnExactKnownOfUptoRow.holds Try.pinned (OpenSpec.upto fnExactKnownOfSpec)

/-- 'laws.FnExactBucketOf', WHERE WHAT IT READS IS OF BULK AT MOST 1048576: true; the input reads as it did. -/
def fnExactBucketOfUptoRow : OpenClaim := { program := "ytdgikheibcmcjaa", sum := "f75c72c219d61994476c9744e984a7b12980860a1d66aa3ec9539053e74a1fb1", func := "loop.example/tablehouse/laws.FnExactBucketOf", spec := "fnExactBucketOf", apart := false, narrowed := true }
def FnExactBucketOfUptoSaid : Prop := fnExactBucketOfUptoRow.holds Try.pinned (OpenSpec.upto fnExactBucketOfSpec)

/-- 'laws.FnTruthOf', WHERE WHAT IT READS IS OF BULK AT MOST 1048576: true; the input reads as it did. -/
def fnTruthOfUptoRow : OpenClaim := { program := "ytdgikheibcmcjaa", sum := "f75c72c219d61994476c9744e984a7b12980860a1d66aa3ec9539053e74a1fb1", func := "loop.example/tablehouse/laws.FnTruthOf", spec := "fnTruthOf", apart := false, narrowed := true }
def FnTruthOfUptoSaid : Prop := fnTruthOfUptoRow.holds Try.pinned (OpenSpec.upto fnTruthOfSpec)

/-- 'laws.FnBucketOf', WHERE WHAT IT READS IS OF BULK AT MOST 1048576: true; the input reads as it did. -/
def fnBucketOfUptoRow : OpenClaim := { program := "ytdgikheibcmcjaa", sum := "f75c72c219d61994476c9744e984a7b12980860a1d66aa3ec9539053e74a1fb1", func := "loop.example/tablehouse/laws.FnBucketOf", spec := "fnBucketOf", apart := false, narrowed := true }
def FnBucketOfUptoSaid : Prop := fnBucketOfUptoRow.holds Try.pinned (OpenSpec.upto fnBucketOfSpec)

/-- 'laws.FnValueBytes', WHERE WHAT IT READS IS OF BULK AT MOST 1048576: true; the input reads as it did. -/
def fnValueBytesUptoRow : OpenClaim := { program := "ytdgikheibcmcjaa", sum := "f75c72c219d61994476c9744e984a7b12980860a1d66aa3ec9539053e74a1fb1", func := "loop.example/tablehouse/laws.FnValueBytes", spec := "fnValueBytes", apart := false, narrowed := true }
def FnValueBytesUptoSaid : Prop := fnValueBytesUptoRow.holds Try.pinned (OpenSpec.upto fnValueBytesSpec)

/-- 'laws.FnValueOrder', WHERE WHAT IT READS IS OF BULK AT MOST 1048576: true; the input reads as it did. -/
def fnValueOrderUptoRow : OpenClaim := { program := "ytdgikheibcmcjaa", sum := "f75c72c219d61994476c9744e984a7b12980860a1d66aa3ec9539053e74a1fb1", func := "loop.example/tablehouse/laws.FnValueOrder", spec := "fnValueOrder", apart := false, narrowed := true }
def FnValueOrderUptoSaid : Prop := fnValueOrderUptoRow.holds Try.pinned (OpenSpec.upto fnValueOrderSpec)

/-- 'laws.FnValueFrom', WHERE WHAT IT READS IS OF BULK AT MOST 1048576: true; the input reads as it did. -/
def fnValueFromUptoRow : OpenClaim := { program := "ytdgikheibcmcjaa", sum := "f75c72c219d61994476c9744e984a7b12980860a1d66aa3ec9539053e74a1fb1", func := "loop.example/tablehouse/laws.FnValueFrom", spec := "fnValueFrom", apart := false, narrowed := true }
def FnValueFromUptoSaid : Prop := fnValueFromUptoRow.holds Try.pinned (OpenSpec.upto fnValueFromSpec)

/-- 'laws.FnExactCompare', WHERE WHAT IT READS IS OF BULK AT MOST 1048576: true; the input reads as it did. -/
def fnExactCompareUptoRow : OpenClaim := { program := "ytdgikheibcmcjaa", sum := "f75c72c219d61994476c9744e984a7b12980860a1d66aa3ec9539053e74a1fb1", func := "loop.example/tablehouse/laws.FnExactCompare", spec := "fnExactCompare", apart := false, narrowed := true }
def FnExactCompareUptoSaid : Prop := fnExactCompareUptoRow.holds Try.pinned (OpenSpec.upto fnExactCompareSpec)

end Rows
end Go.Proofs.Ytdgikheibcmcjaa
