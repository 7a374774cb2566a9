/-
  No cell of these rows narrows 'for every input' (looked for: loops, veiled, ifaces, maps, wideKeys, modest, calm, conditions, laid).
  DERIVED. THE GIVEN ROWS OF THIS SEAT. 12 by the template 'for every input the law returns true; each argument reads behind the call as it read before'; 0 by the template 'total and deterministic' (their statements: YtokphjnpkaipcaaTotals.lean).
  GIVEN WITH THE SEED: the statements are not yours to turn. If you find one false, say at which input.
  Laid BY PROGRAM, IN A SANDBOX (cutbox-rows.mjs): the forced cells as the released guide's own fill.sh prints them over the translation 3cf8645fdefe880f… (all of the seat's roots in one cut). By AI agents, Wed Nov 11 2026. No macro, syntax, notation, axiom, sorry.
-/
import Derived.Test.YtokphjnpkaipcaaChecked
import GoSem.Claim
import GoSem.ClaimJoined
import GoSem.ClaimMapViews
import Derived.JoinedTies
import Derived.KernelRfl
namespace Go.Proofs.Ytokphjnpkaipcaa
/- THE CELL 'sum', in the pinned program and in every row, IS THE sha256 OF THE DUMP (.gsa) THAT YtokphjnpkaipcaaProg.lean LOADS. Nothing in Lean hashes anything: it is a label: what it is worth is what the hold of that sum in a sandbox is worth. -/
noncomputable def Try.pinned : Pinned := { name := "ytokphjnpkaipcaa", sum := "3cf8645fdefe880f1c96af488614dc1c041fe9a947692d0596ffafede6afc5b8", checked := Try.checked }
namespace Rows
def none {H : Type} : Left H := { results := [], args := [] }

/-- 'laws.FnExactKnownOk': WHATEVER THE INPUT: true; the input reads as it did. -/
def fnExactKnownOkSpec : ChangeSpec := { name := "fnExactKnownOk", fn := fun _ => fun
  | [d] => { results := [.lit (.bool true)], args := [d] }
  | _ => none }
def fnExactKnownOkRow : OpenClaim := { program := "ytokphjnpkaipcaa", sum := "3cf8645fdefe880f1c96af488614dc1c041fe9a947692d0596ffafede6afc5b8", func := "loop.example/tablehouse/laws.FnExactKnownOk", spec := "fnExactKnownOk", apart := false }
def FnExactKnownOkSaid : Prop := fnExactKnownOkRow.holds Try.pinned (OpenSpec.ofChange fnExactKnownOkSpec)

/-- ITS FALSE NEIGHBOUR: 'it returns false'. Refute it at one input. -/
def fnExactKnownOkWrong : ChangeSpec := { name := "fnExactKnownOk", fn := fun _ => fun
  | [d] => { results := [.lit (.bool false)], args := [d] }
  | _ => none }
def FnExactKnownOkWrongFalsely : Prop := fnExactKnownOkRow.holds Try.pinned (OpenSpec.ofChange fnExactKnownOkWrong)

/-- 'laws.FnKnownOf': WHATEVER THE INPUT: true; the input reads as it did. -/
def fnKnownOfSpec : ChangeSpec := { name := "fnKnownOf", fn := fun _ => fun
  | [d] => { results := [.lit (.bool true)], args := [d] }
  | _ => none }
def fnKnownOfRow : OpenClaim := { program := "ytokphjnpkaipcaa", sum := "3cf8645fdefe880f1c96af488614dc1c041fe9a947692d0596ffafede6afc5b8", func := "loop.example/tablehouse/laws.FnKnownOf", spec := "fnKnownOf", apart := false }
def FnKnownOfSaid : Prop := fnKnownOfRow.holds Try.pinned (OpenSpec.ofChange fnKnownOfSpec)

/-- ITS FALSE NEIGHBOUR: 'it returns false'. Refute it at one input. -/
def fnKnownOfWrong : ChangeSpec := { name := "fnKnownOf", fn := fun _ => fun
  | [d] => { results := [.lit (.bool false)], args := [d] }
  | _ => none }
def FnKnownOfWrongFalsely : Prop := fnKnownOfRow.holds Try.pinned (OpenSpec.ofChange fnKnownOfWrong)

/-- 'laws.FnExactMayHold': WHATEVER THE INPUT: true; the input reads as it did. -/
def fnExactMayHoldSpec : ChangeSpec := { name := "fnExactMayHold", fn := fun _ => fun
  | [d1, d2, d3] => { results := [.lit (.bool true)], args := [d1, d2, d3] }
  | _ => none }
def fnExactMayHoldRow : OpenClaim := { program := "ytokphjnpkaipcaa", sum := "3cf8645fdefe880f1c96af488614dc1c041fe9a947692d0596ffafede6afc5b8", func := "loop.example/tablehouse/laws.FnExactMayHold", spec := "fnExactMayHold", apart := false }
def FnExactMayHoldSaid : Prop := fnExactMayHoldRow.holds Try.pinned (OpenSpec.ofChange fnExactMayHoldSpec)

/-- ITS FALSE NEIGHBOUR: 'it returns false'. Refute it at one input. -/
def fnExactMayHoldWrong : ChangeSpec := { name := "fnExactMayHold", fn := fun _ => fun
  | [d1, d2, d3] => { results := [.lit (.bool false)], args := [d1, d2, d3] }
  | _ => none }
def FnExactMayHoldWrongFalsely : Prop := fnExactMayHoldRow.holds Try.pinned (OpenSpec.ofChange fnExactMayHoldWrong)

/-- 'laws.FnExactMustHold': WHATEVER THE INPUT: true; the input reads as it did. -/
def fnExactMustHoldSpec : ChangeSpec := { name := "fnExactMustHold", fn := fun _ => fun
  | [d1, d2, d3] => { results := [.lit (.bool true)], args := [d1, d2, d3] }
  | _ => none }
def fnExactMustHoldRow : OpenClaim := { program := "ytokphjnpkaipcaa", sum := "3cf8645fdefe880f1c96af488614dc1c041fe9a947692d0596ffafede6afc5b8", func := "loop.example/tablehouse/laws.FnExactMustHold", spec := "fnExactMustHold", apart := false }
def FnExactMustHoldSaid : Prop := fnExactMustHoldRow.holds Try.pinned (OpenSpec.ofChange fnExactMustHoldSpec)

/-- ITS FALSE NEIGHBOUR: 'it returns false'. Refute it at one input. -/
def fnExactMustHoldWrong : ChangeSpec := { name := "fnExactMustHold", fn := fun _ => fun
  | [d1, d2, d3] => { results := [.lit (.bool false)], args := [d1, d2, d3] }
  | _ => none }
def FnExactMustHoldWrongFalsely : Prop := fnExactMustHoldRow.holds Try.pinned (OpenSpec.ofChange fnExactMustHoldWrong)

/-- 'laws.FnExactKnownTell': WHATEVER THE INPUT: true; the input reads as it did. -/
def fnExactKnownTellSpec : ChangeSpec := { name := "fnExactKnownTell", fn := fun _ => fun
  | [d1, d2] => { results := [.lit (.bool true)], args := [d1, d2] }
  | _ => none }
def fnExactKnownTellRow : OpenClaim := { program := "ytokphjnpkaipcaa", sum := "3cf8645fdefe880f1c96af488614dc1c041fe9a947692d0596ffafede6afc5b8", func := "loop.example/tablehouse/laws.FnExactKnownTell", spec := "fnExactKnownTell", apart := false }
def FnExactKnownTellSaid : Prop := fnExactKnownTellRow.holds Try.pinned (OpenSpec.ofChange fnExactKnownTellSpec)

/-- ITS FALSE NEIGHBOUR: 'it returns false'. Refute it at one input. -/
def fnExactKnownTellWrong : ChangeSpec := { name := "fnExactKnownTell", fn := fun _ => fun
  | [d1, d2] => { results := [.lit (.bool false)], args := [d1, d2] }
  | _ => none }
def FnExactKnownTellWrongFalsely : Prop := fnExactKnownTellRow.holds Try.pinned (OpenSpec.ofChange fnExactKnownTellWrong)

/-- 'laws.FnExactHouseNew': WHATEVER THE INPUT: true; the input reads as it did. -/
def fnExactHouseNewSpec : ChangeSpec := { name := "fnExactHouseNew", fn := fun _ => fun
  | [d] => { results := [.lit (.bool true)], args := [d] }
  | _ => none }
def fnExactHouseNewRow : OpenClaim := { program := "ytokphjnpkaipcaa", sum := "3cf8645fdefe880f1c96af488614dc1c041fe9a947692d0596ffafede6afc5b8", func := "loop.example/tablehouse/laws.FnExactHouseNew", spec := "fnExactHouseNew", apart := false }
def FnExactHouseNewSaid : Prop := fnExactHouseNewRow.holds Try.pinned (OpenSpec.ofChange fnExactHouseNewSpec)

/-- ITS FALSE NEIGHBOUR: 'it returns false'. Refute it at one input. -/
def fnExactHouseNewWrong : ChangeSpec := { name := "fnExactHouseNew", fn := fun _ => fun
  | [d] => { results := [.lit (.bool false)], args := [d] }
  | _ => none }
def FnExactHouseNewWrongFalsely : Prop := fnExactHouseNewRow.holds Try.pinned (OpenSpec.ofChange fnExactHouseNewWrong)

/-- 'laws.FnExactRowOk': WHATEVER THE INPUT: true; the input reads as it did. -/
def fnExactRowOkSpec : ChangeSpec := { name := "fnExactRowOk", fn := fun _ => fun
  | [d] => { results := [.lit (.bool true)], args := [d] }
  | _ => none }
def fnExactRowOkRow : OpenClaim := { program := "ytokphjnpkaipcaa", sum := "3cf8645fdefe880f1c96af488614dc1c041fe9a947692d0596ffafede6afc5b8", func := "loop.example/tablehouse/laws.FnExactRowOk", spec := "fnExactRowOk", unfollowed := true, recurses := true, apart := false }
def FnExactRowOkSaid : Prop := fnExactRowOkRow.holds Try.pinned (OpenSpec.ofChange fnExactRowOkSpec)

/-- ITS FALSE NEIGHBOUR: 'it returns false'. Refute it at one input. -/
def fnExactRowOkWrong : ChangeSpec := { name := "fnExactRowOk", fn := fun _ => fun
  | [d] => { results := [.lit (.bool false)], args := [d] }
  | _ => none }
def FnExactRowOkWrongFalsely : Prop := fnExactRowOkRow.holds Try.pinned (OpenSpec.ofChange fnExactRowOkWrong)

/-- 'laws.FnRowOk': WHATEVER THE INPUT: true; the input reads as it did. -/
def fnRowOkSpec : ChangeSpec := { name := "fnRowOk", fn := fun _ => fun
  | [d] => { results := [.lit (.bool true)], args := [d] }
  | _ => none }
def fnRowOkRow : OpenClaim := { program := "ytokphjnpkaipcaa", sum := "3cf8645fdefe880f1c96af488614dc1c041fe9a947692d0596ffafede6afc5b8", func := "loop.example/tablehouse/laws.FnRowOk", spec := "fnRowOk", unfollowed := true, recurses := true, apart := false }
def FnRowOkSaid : Prop := fnRowOkRow.holds Try.pinned (OpenSpec.ofChange fnRowOkSpec)

/-- ITS FALSE NEIGHBOUR: 'it returns false'. Refute it at one input. -/
def fnRowOkWrong : ChangeSpec := { name := "fnRowOk", fn := fun _ => fun
  | [d] => { results := [.lit (.bool false)], args := [d] }
  | _ => none }
def FnRowOkWrongFalsely : Prop := fnRowOkRow.holds Try.pinned (OpenSpec.ofChange fnRowOkWrong)

/-- 'laws.FnExactRowFits': WHATEVER THE INPUT: true; the input reads as it did. -/
def fnExactRowFitsSpec : ChangeSpec := { name := "fnExactRowFits", fn := fun _ => fun
  | [d1, d2] => { results := [.lit (.bool true)], args := [d1, d2] }
  | _ => none }
def fnExactRowFitsRow : OpenClaim := { program := "ytokphjnpkaipcaa", sum := "3cf8645fdefe880f1c96af488614dc1c041fe9a947692d0596ffafede6afc5b8", func := "loop.example/tablehouse/laws.FnExactRowFits", spec := "fnExactRowFits", unfollowed := true, recurses := true, apart := false }
def FnExactRowFitsSaid : Prop := fnExactRowFitsRow.holds Try.pinned (OpenSpec.ofChange fnExactRowFitsSpec)

/-- ITS FALSE NEIGHBOUR: 'it returns false'. Refute it at one input. -/
def fnExactRowFitsWrong : ChangeSpec := { name := "fnExactRowFits", fn := fun _ => fun
  | [d1, d2] => { results := [.lit (.bool false)], args := [d1, d2] }
  | _ => none }
def FnExactRowFitsWrongFalsely : Prop := fnExactRowFitsRow.holds Try.pinned (OpenSpec.ofChange fnExactRowFitsWrong)

/-- 'laws.FnRowFits': WHATEVER THE INPUT: true; the input reads as it did. -/
def fnRowFitsSpec : ChangeSpec := { name := "fnRowFits", fn := fun _ => fun
  | [d] => { results := [.lit (.bool true)], args := [d] }
  | _ => none }
def fnRowFitsRow : OpenClaim := { program := "ytokphjnpkaipcaa", sum := "3cf8645fdefe880f1c96af488614dc1c041fe9a947692d0596ffafede6afc5b8", func := "loop.example/tablehouse/laws.FnRowFits", spec := "fnRowFits", unfollowed := true, recurses := true, apart := false }
def FnRowFitsSaid : Prop := fnRowFitsRow.holds Try.pinned (OpenSpec.ofChange fnRowFitsSpec)

/-- ITS FALSE NEIGHBOUR: 'it returns false'. Refute it at one input. -/
def fnRowFitsWrong : ChangeSpec := { name := "fnRowFits", fn := fun _ => fun
  | [d] => { results := [.lit (.bool false)], args := [d] }
  | _ => none }
def FnRowFitsWrongFalsely : Prop := fnRowFitsRow.holds Try.pinned (OpenSpec.ofChange fnRowFitsWrong)

/-- 'laws.FnExactWritesOk': WHATEVER THE INPUT: true; the input reads as it did. -/
def fnExactWritesOkSpec : ChangeSpec := { name := "fnExactWritesOk", fn := fun _ => fun
  | [d] => { results := [.lit (.bool true)], args := [d] }
  | _ => none }
def fnExactWritesOkRow : OpenClaim := { program := "ytokphjnpkaipcaa", sum := "3cf8645fdefe880f1c96af488614dc1c041fe9a947692d0596ffafede6afc5b8", func := "loop.example/tablehouse/laws.FnExactWritesOk", spec := "fnExactWritesOk", unfollowed := true, recurses := true, apart := false }
def FnExactWritesOkSaid : Prop := fnExactWritesOkRow.holds Try.pinned (OpenSpec.ofChange fnExactWritesOkSpec)

/-- ITS FALSE NEIGHBOUR: 'it returns false'. Refute it at one input. -/
def fnExactWritesOkWrong : ChangeSpec := { name := "fnExactWritesOk", fn := fun _ => fun
  | [d] => { results := [.lit (.bool false)], args := [d] }
  | _ => none }
def FnExactWritesOkWrongFalsely : Prop := fnExactWritesOkRow.holds Try.pinned (OpenSpec.ofChange fnExactWritesOkWrong)

/-- 'laws.FnExactBatchOk': WHATEVER THE INPUT: true; the input reads as it did. -/
def fnExactBatchOkSpec : ChangeSpec := { name := "fnExactBatchOk", fn := fun _ => fun
  | [d] => { results := [.lit (.bool true)], args := [d] }
  | _ => none }
def fnExactBatchOkRow : OpenClaim := { program := "ytokphjnpkaipcaa", sum := "3cf8645fdefe880f1c96af488614dc1c041fe9a947692d0596ffafede6afc5b8", func := "loop.example/tablehouse/laws.FnExactBatchOk", spec := "fnExactBatchOk", unfollowed := true, recurses := true, apart := false }
def FnExactBatchOkSaid : Prop := fnExactBatchOkRow.holds Try.pinned (OpenSpec.ofChange fnExactBatchOkSpec)

/-- ITS FALSE NEIGHBOUR: 'it returns false'. Refute it at one input. -/
def fnExactBatchOkWrong : ChangeSpec := { name := "fnExactBatchOk", fn := fun _ => fun
  | [d] => { results := [.lit (.bool false)], args := [d] }
  | _ => none }
def FnExactBatchOkWrongFalsely : Prop := fnExactBatchOkRow.holds Try.pinned (OpenSpec.ofChange fnExactBatchOkWrong)

/- THE SECOND FORM. 'bulk': how many values and letters a reading holds, each counted each time it is reached (what is shared counts as often as it is met; a slice's spare places count too). A statement '..UptoSaid' is the law's where the arguments, and the package variables that the reading takes, are together of bulk at most 1048576: NARROWER than '..Said'. Prove '..Said' where nothing that the law and all that it calls make is longer than what came in: it says more and counts as full. Else prove '..UptoSaid'. A law counts once. -/
mutual
def uptoBulk {H : Type} : DataW H → Nat
  | .lit (.string bytes) => bytes.length + 1
  | .lit _ => 1
  | .nil => 1
  | .ptr d => uptoBulk d + 1
  | .slice elems spare => uptoBulkAll elems + uptoBulkAll spare + 1
  | .agg parts => uptoBulkAll parts + 1
  | .iface _ d => uptoBulk d + 1
  | .map entries => uptoBulkEntries entries + 1
  | .held _ => 1
def uptoBulkAll {H : Type} : List (DataW H) → Nat
  | [] => 0
  | d :: r => uptoBulk d + uptoBulkAll r
def uptoBulkEntries {H : Type} : List (Lit × DataW H) → Nat
  | [] => 0
  | x :: r => uptoBulkEntry x + uptoBulkEntries r
def uptoBulkEntry {H : Type} : Lit × DataW H → Nat
  | (.string bytes, d) => bytes.length + uptoBulk d + 1
  | (_, d) => uptoBulk d + 1
 end
def uptoSmall : (H : Type) → List (DataW H) → Bool := fun _ ds => decide (uptoBulkAll ds ≤ 1048576)
def OpenSpec.upto (s : _root_.Go.ChangeSpec) : _root_.Go.OpenSpec := { _root_.Go.OpenSpec.ofChange s with cond := some uptoSmall }

/-- 'laws.FnExactKnownOk', WHERE WHAT IT READS IS OF BULK AT MOST 1048576: true; the input reads as it did. -/
def fnExactKnownOkUptoRow : OpenClaim := { program := "ytokphjnpkaipcaa", sum := "3cf8645fdefe880f1c96af488614dc1c041fe9a947692d0596ffafede6afc5b8", func := "loop.example/tablehouse/laws.FnExactKnownOk", spec := "fnExactKnownOk", apart := false, narrowed := true }
def FnExactKnownOkUptoSaid : Prop := fnExactKnownOkUptoRow.holds Try.pinned (OpenSpec.upto fnExactKnownOkSpec)

/-- 'laws.FnKnownOf', WHERE WHAT IT READS IS OF BULK AT MOST 1048576: true; the input reads as it did. -/
def fnKnownOfUptoRow : OpenClaim := { program := "ytokphjnpkaipcaa", sum := "3cf8645fdefe880f1c96af488614dc1c041fe9a947692d0596ffafede6afc5b8", func := "loop.example/tablehouse/laws.FnKnownOf", spec := "fnKnownOf", apart := false, narrowed := true }
def FnKnownOfUptoSaid : Prop := fnKnownOfUptoRow.holds Try.pinned (OpenSpec.upto fnKnownOfSpec)

/-- 'laws.FnExactMayHold', WHERE WHAT IT READS IS OF BULK AT MOST 1048576: true; the input reads as it did. -/
def fnExactMayHoldUptoRow : OpenClaim := { program := "ytokphjnpkaipcaa", sum := "3cf8645fdefe880f1c96af488614dc1c041fe9a947692d0596ffafede6afc5b8", func := "loop.example/tablehouse/laws.FnExactMayHold", spec := "fnExactMayHold", apart := false, narrowed := true }
def FnExactMayHoldUptoSaid : Prop := fnExactMayHoldUptoRow.holds Try.pinned (OpenSpec.upto fnExactMayHoldSpec)

/-- 'laws.FnExactMustHold', WHERE WHAT IT READS IS OF BULK AT MOST 1048576: true; the input reads as it did. -/
def fnExactMustHoldUptoRow : OpenClaim := { program := "ytokphjnpkaipcaa", sum := "3cf8645fdefe880f1c96af488614dc1c041fe9a947692d0596ffafede6afc5b8", func := "loop.example/tablehouse/laws.FnExactMustHold", spec := "fnExactMustHold", apart := false, narrowed := true }
def FnExactMustHoldUptoSaid : Prop := fnExactMustHoldUptoRow.holds Try.pinned (OpenSpec.upto fnExactMustHoldSpec)

/-- 'laws.FnExactKnownTell', WHERE WHAT IT READS IS OF BULK AT MOST 1048576: true; the input reads as it did. -/
def fnExactKnownTellUptoRow : OpenClaim := { program := "ytokphjnpkaipcaa", sum := "3cf8645fdefe880f1c96af488614dc1c041fe9a947692d0596ffafede6afc5b8", func := "loop.example/tablehouse/laws.FnExactKnownTell", spec := "fnExactKnownTell", apart := false, narrowed := true }
def FnExactKnownTellUptoSaid : Prop := fnExactKnownTellUptoRow.holds Try.pinned (OpenSpec.upto fnExactKnownTellSpec)

/-- 'laws.FnExactHouseNew', WHERE WHAT IT READS IS OF BULK AT MOST 1048576: true; the input reads as it did. -/
def fnExactHouseNewUptoRow : OpenClaim := { program := "ytokphjnpkaipcaa", sum := "3cf8645fdefe880f1c96af488614dc1c041fe9a947692d0596ffafede6afc5b8", func := "loop.example/tablehouse/laws.FnExactHouseNew", spec := "fnExactHouseNew", apart := false, narrowed := true }
def FnExactHouseNewUptoSaid : Prop := fnExactHouseNewUptoRow.holds Try.pinned (OpenSpec.upto fnExactHouseNewSpec)

/-- 'laws.FnExactRowOk', WHERE WHAT IT READS IS OF BULK AT MOST 1048576: true; the input reads as it did. -/
def fnExactRowOkUptoRow : OpenClaim := { program := "ytokphjnpkaipcaa", sum := "3cf8645fdefe880f1c96af488614dc1c041fe9a947692d0596ffafede6afc5b8", func := "loop.example/tablehouse/laws.FnExactRowOk", spec := "fnExactRowOk", unfollowed := true, recurses := true, apart := false, narrowed := true }
def FnExactRowOkUptoSaid : Prop := fnExactRowOkUptoRow.holds Try.pinned (OpenSpec.upto fnExactRowOkSpec)

/-- 'laws.FnRowOk', WHERE WHAT IT READS IS OF BULK AT MOST 1048576: true; the input reads as it did. -/
def fnRowOkUptoRow : OpenClaim := { program := "ytokphjnpkaipcaa", sum := "3cf8645fdefe880f1c96af488614dc1c041fe9a947692d0596ffafede6afc5b8", func := "loop.example/tablehouse/laws.FnRowOk", spec := "fnRowOk", unfollowed := true, recurses := true, apart := false, narrowed := true }
def FnRowOkUptoSaid : Prop := fnRowOkUptoRow.holds Try.pinned (OpenSpec.upto fnRowOkSpec)

/-- 'laws.FnExactRowFits', WHERE WHAT IT READS IS OF BULK AT MOST 1048576: true; the input reads as it did. -/
def fnExactRowFitsUptoRow : OpenClaim := { program := "ytokphjnpkaipcaa", sum := "3cf8645fdefe880f1c96af488614dc1c041fe9a947692d0596ffafede6afc5b8", func := "loop.example/tablehouse/laws.FnExactRowFits", spec := "fnExactRowFits", unfollowed := true, recurses := true, apart := false, narrowed := true }
def FnExactRowFitsUptoSaid : Prop := fnExactRowFitsUptoRow.holds Try.pinned (OpenSpec.upto fnExactRowFitsSpec)

/-- 'laws.FnRowFits', WHERE WHAT IT READS IS OF BULK AT MOST 1048576: true; the input reads as it did. -/
def fnRowFitsUptoRow : OpenClaim := { program := "ytokphjnpkaipcaa", sum := "3cf8645fdefe880f1c96af488614dc1c041fe9a947692d0596ffafede6afc5b8", func := "loop.example/tablehouse/laws.FnRowFits", spec := "fnRowFits", unfollowed := true, recurses := true, apart := false, narrowed := true }
def FnRowFitsUptoSaid : Prop := fnRowFitsUptoRow.holds Try.pinned (OpenSpec.upto fnRowFitsSpec)

/-- 'laws.FnExactWritesOk', WHERE WHAT IT READS IS OF BULK AT MOST 1048576: true; the input reads as it did. -/
def fnExactWritesOkUptoRow : OpenClaim := { program := "ytokphjnpkaipcaa", sum := "3cf8645fdefe880f1c96af488614dc1c041fe9a947692d0596ffafede6afc5b8", func := "loop.example/tablehouse/laws.FnExactWritesOk", spec := "fnExactWritesOk", unfollowed := true, recurses := true, apart := false, narrowed := true }
def FnExactWritesOkUptoSaid : Prop := fnExactWritesOkUptoRow.holds Try.pinned (OpenSpec.upto fnExactWritesOkSpec)

/-- 'laws.FnExactBatchOk', WHERE WHAT IT READS IS OF BULK AT MOST 1048576: true; the input reads as it did. -/
def fnExactBatchOkUptoRow : OpenClaim := { program := "ytokphjnpkaipcaa", sum := "3cf8645fdefe880f1c96af488614dc1c041fe9a947692d0596ffafede6afc5b8", func := "loop.example/tablehouse/laws.FnExactBatchOk", spec := "fnExactBatchOk", unfollowed := true, recurses := true, apart := false, narrowed := true }
def FnExactBatchOkUptoSaid : Prop := fnExactBatchOkUptoRow.holds Try.pinned (OpenSpec.upto fnExactBatchOkSpec)

end Rows
end Go.Proofs.Ytokphjnpkaipcaa
