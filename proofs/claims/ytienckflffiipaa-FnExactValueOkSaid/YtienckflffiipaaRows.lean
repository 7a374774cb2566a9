/-
  No cell of these rows narrows 'for every input' (looked for: loops, veiled, ifaces, maps, wideKeys, modest, calm, conditions, laid).
  DERIVED. THE GIVEN ROWS OF THIS SEAT. 12 by the template 'for every input the law returns true; each argument reads behind the call as it read before'; 0 by the template 'total and deterministic' (their statements: YtienckflffiipaaTotals.lean).
  GIVEN WITH THE SEED: the statements are not yours to turn. If you find one false, say at which input.
  Laid BY PROGRAM, IN A SANDBOX (cutbox-rows.mjs): the forced cells as the released guide's own fill.sh prints them over the translation d4fdea5cb50a2158… (all of the seat's roots in one cut). By AI agents, Wed Nov 11 2026. No macro, syntax, notation, axiom, sorry.
-/
import Derived.Test.YtienckflffiipaaChecked
import GoSem.Claim
import GoSem.ClaimJoined
import GoSem.ClaimMapViews
import Derived.JoinedTies
import Derived.KernelRfl
namespace Go.Proofs.Ytienckflffiipaa
/- THE CELL 'sum', in the pinned program and in every row, IS THE sha256 OF THE DUMP (.gsa) THAT YtienckflffiipaaProg.lean LOADS. Nothing in Lean hashes anything: it is a label: what it is worth is what the hold of that sum in a sandbox is worth. -/
noncomputable def Try.pinned : Pinned := { name := "ytienckflffiipaa", sum := "d4fdea5cb50a2158148d3027edff5a2cb47bb268f2a04e90dc57a6551e5deed1", checked := Try.checked }
namespace Rows
def none {H : Type} : Left H := { results := [], args := [] }

/-- 'laws.FnExactConstants': WHATEVER THE INPUT: true; the input reads as it did. -/
def fnExactConstantsSpec : ChangeSpec := { name := "fnExactConstants", fn := fun _ => fun
  | [] => { results := [.lit (.bool true)], args := [] }
  | _ => none }
def fnExactConstantsRow : OpenClaim := { program := "ytienckflffiipaa", sum := "d4fdea5cb50a2158148d3027edff5a2cb47bb268f2a04e90dc57a6551e5deed1", func := "loop.example/tablehouse/laws.FnExactConstants", spec := "fnExactConstants", apart := false }
def FnExactConstantsSaid : Prop := fnExactConstantsRow.holds Try.pinned (OpenSpec.ofChange fnExactConstantsSpec)

/-- ITS FALSE NEIGHBOUR: 'it returns false'. Refute it at one input. -/
def fnExactConstantsWrong : ChangeSpec := { name := "fnExactConstants", fn := fun _ => fun
  | [] => { results := [.lit (.bool false)], args := [] }
  | _ => none }
def FnExactConstantsWrongFalsely : Prop := fnExactConstantsRow.holds Try.pinned (OpenSpec.ofChange fnExactConstantsWrong)

/-- 'laws.FnExactTruthOk': WHATEVER THE INPUT: true; the input reads as it did. -/
def fnExactTruthOkSpec : ChangeSpec := { name := "fnExactTruthOk", fn := fun _ => fun
  | [d] => { results := [.lit (.bool true)], args := [d] }
  | _ => none }
def fnExactTruthOkRow : OpenClaim := { program := "ytienckflffiipaa", sum := "d4fdea5cb50a2158148d3027edff5a2cb47bb268f2a04e90dc57a6551e5deed1", func := "loop.example/tablehouse/laws.FnExactTruthOk", spec := "fnExactTruthOk", apart := false }
def FnExactTruthOkSaid : Prop := fnExactTruthOkRow.holds Try.pinned (OpenSpec.ofChange fnExactTruthOkSpec)

/-- ITS FALSE NEIGHBOUR: 'it returns false'. Refute it at one input. -/
def fnExactTruthOkWrong : ChangeSpec := { name := "fnExactTruthOk", fn := fun _ => fun
  | [d] => { results := [.lit (.bool false)], args := [d] }
  | _ => none }
def FnExactTruthOkWrongFalsely : Prop := fnExactTruthOkRow.holds Try.pinned (OpenSpec.ofChange fnExactTruthOkWrong)

/-- 'laws.FnExactValueOf': WHATEVER THE INPUT: true; the input reads as it did. -/
def fnExactValueOfSpec : ChangeSpec := { name := "fnExactValueOf", fn := fun _ => fun
  | [d] => { results := [.lit (.bool true)], args := [d] }
  | _ => none }
def fnExactValueOfRow : OpenClaim := { program := "ytienckflffiipaa", sum := "d4fdea5cb50a2158148d3027edff5a2cb47bb268f2a04e90dc57a6551e5deed1", func := "loop.example/tablehouse/laws.FnExactValueOf", spec := "fnExactValueOf", apart := false }
def FnExactValueOfSaid : Prop := fnExactValueOfRow.holds Try.pinned (OpenSpec.ofChange fnExactValueOfSpec)

/-- ITS FALSE NEIGHBOUR: 'it returns false'. Refute it at one input. -/
def fnExactValueOfWrong : ChangeSpec := { name := "fnExactValueOf", fn := fun _ => fun
  | [d] => { results := [.lit (.bool false)], args := [d] }
  | _ => none }
def FnExactValueOfWrongFalsely : Prop := fnExactValueOfRow.holds Try.pinned (OpenSpec.ofChange fnExactValueOfWrong)

/-- 'laws.FnExactNotOf': WHATEVER THE INPUT: true; the input reads as it did. -/
def fnExactNotOfSpec : ChangeSpec := { name := "fnExactNotOf", fn := fun _ => fun
  | [d] => { results := [.lit (.bool true)], args := [d] }
  | _ => none }
def fnExactNotOfRow : OpenClaim := { program := "ytienckflffiipaa", sum := "d4fdea5cb50a2158148d3027edff5a2cb47bb268f2a04e90dc57a6551e5deed1", func := "loop.example/tablehouse/laws.FnExactNotOf", spec := "fnExactNotOf", apart := false }
def FnExactNotOfSaid : Prop := fnExactNotOfRow.holds Try.pinned (OpenSpec.ofChange fnExactNotOfSpec)

/-- ITS FALSE NEIGHBOUR: 'it returns false'. Refute it at one input. -/
def fnExactNotOfWrong : ChangeSpec := { name := "fnExactNotOf", fn := fun _ => fun
  | [d] => { results := [.lit (.bool false)], args := [d] }
  | _ => none }
def FnExactNotOfWrongFalsely : Prop := fnExactNotOfRow.holds Try.pinned (OpenSpec.ofChange fnExactNotOfWrong)

/-- 'laws.FnExactAndOf': WHATEVER THE INPUT: true; the input reads as it did. -/
def fnExactAndOfSpec : ChangeSpec := { name := "fnExactAndOf", fn := fun _ => fun
  | [d1, d2] => { results := [.lit (.bool true)], args := [d1, d2] }
  | _ => none }
def fnExactAndOfRow : OpenClaim := { program := "ytienckflffiipaa", sum := "d4fdea5cb50a2158148d3027edff5a2cb47bb268f2a04e90dc57a6551e5deed1", func := "loop.example/tablehouse/laws.FnExactAndOf", spec := "fnExactAndOf", apart := false }
def FnExactAndOfSaid : Prop := fnExactAndOfRow.holds Try.pinned (OpenSpec.ofChange fnExactAndOfSpec)

/-- ITS FALSE NEIGHBOUR: 'it returns false'. Refute it at one input. -/
def fnExactAndOfWrong : ChangeSpec := { name := "fnExactAndOf", fn := fun _ => fun
  | [d1, d2] => { results := [.lit (.bool false)], args := [d1, d2] }
  | _ => none }
def FnExactAndOfWrongFalsely : Prop := fnExactAndOfRow.holds Try.pinned (OpenSpec.ofChange fnExactAndOfWrong)

/-- 'laws.FnExactOrOf': WHATEVER THE INPUT: true; the input reads as it did. -/
def fnExactOrOfSpec : ChangeSpec := { name := "fnExactOrOf", fn := fun _ => fun
  | [d1, d2] => { results := [.lit (.bool true)], args := [d1, d2] }
  | _ => none }
def fnExactOrOfRow : OpenClaim := { program := "ytienckflffiipaa", sum := "d4fdea5cb50a2158148d3027edff5a2cb47bb268f2a04e90dc57a6551e5deed1", func := "loop.example/tablehouse/laws.FnExactOrOf", spec := "fnExactOrOf", apart := false }
def FnExactOrOfSaid : Prop := fnExactOrOfRow.holds Try.pinned (OpenSpec.ofChange fnExactOrOfSpec)

/-- ITS FALSE NEIGHBOUR: 'it returns false'. Refute it at one input. -/
def fnExactOrOfWrong : ChangeSpec := { name := "fnExactOrOf", fn := fun _ => fun
  | [d1, d2] => { results := [.lit (.bool false)], args := [d1, d2] }
  | _ => none }
def FnExactOrOfWrongFalsely : Prop := fnExactOrOfRow.holds Try.pinned (OpenSpec.ofChange fnExactOrOfWrong)

/-- 'laws.FnTruthOk': WHATEVER THE INPUT: true; the input reads as it did. -/
def fnTruthOkSpec : ChangeSpec := { name := "fnTruthOk", fn := fun _ => fun
  | [d] => { results := [.lit (.bool true)], args := [d] }
  | _ => none }
def fnTruthOkRow : OpenClaim := { program := "ytienckflffiipaa", sum := "d4fdea5cb50a2158148d3027edff5a2cb47bb268f2a04e90dc57a6551e5deed1", func := "loop.example/tablehouse/laws.FnTruthOk", spec := "fnTruthOk", apart := false }
def FnTruthOkSaid : Prop := fnTruthOkRow.holds Try.pinned (OpenSpec.ofChange fnTruthOkSpec)

/-- ITS FALSE NEIGHBOUR: 'it returns false'. Refute it at one input. -/
def fnTruthOkWrong : ChangeSpec := { name := "fnTruthOk", fn := fun _ => fun
  | [d] => { results := [.lit (.bool false)], args := [d] }
  | _ => none }
def FnTruthOkWrongFalsely : Prop := fnTruthOkRow.holds Try.pinned (OpenSpec.ofChange fnTruthOkWrong)

/-- 'laws.FnNotOf': WHATEVER THE INPUT: true; the input reads as it did. -/
def fnNotOfSpec : ChangeSpec := { name := "fnNotOf", fn := fun _ => fun
  | [d] => { results := [.lit (.bool true)], args := [d] }
  | _ => none }
def fnNotOfRow : OpenClaim := { program := "ytienckflffiipaa", sum := "d4fdea5cb50a2158148d3027edff5a2cb47bb268f2a04e90dc57a6551e5deed1", func := "loop.example/tablehouse/laws.FnNotOf", spec := "fnNotOf", apart := false }
def FnNotOfSaid : Prop := fnNotOfRow.holds Try.pinned (OpenSpec.ofChange fnNotOfSpec)

/-- ITS FALSE NEIGHBOUR: 'it returns false'. Refute it at one input. -/
def fnNotOfWrong : ChangeSpec := { name := "fnNotOf", fn := fun _ => fun
  | [d] => { results := [.lit (.bool false)], args := [d] }
  | _ => none }
def FnNotOfWrongFalsely : Prop := fnNotOfRow.holds Try.pinned (OpenSpec.ofChange fnNotOfWrong)

/-- 'laws.FnOrOf': WHATEVER THE INPUT: true; the input reads as it did. -/
def fnOrOfSpec : ChangeSpec := { name := "fnOrOf", fn := fun _ => fun
  | [d] => { results := [.lit (.bool true)], args := [d] }
  | _ => none }
def fnOrOfRow : OpenClaim := { program := "ytienckflffiipaa", sum := "d4fdea5cb50a2158148d3027edff5a2cb47bb268f2a04e90dc57a6551e5deed1", func := "loop.example/tablehouse/laws.FnOrOf", spec := "fnOrOf", apart := false }
def FnOrOfSaid : Prop := fnOrOfRow.holds Try.pinned (OpenSpec.ofChange fnOrOfSpec)

/-- ITS FALSE NEIGHBOUR: 'it returns false'. Refute it at one input. -/
def fnOrOfWrong : ChangeSpec := { name := "fnOrOf", fn := fun _ => fun
  | [d] => { results := [.lit (.bool false)], args := [d] }
  | _ => none }
def FnOrOfWrongFalsely : Prop := fnOrOfRow.holds Try.pinned (OpenSpec.ofChange fnOrOfWrong)

/-- 'laws.FnAndOf': WHATEVER THE INPUT: true; the input reads as it did. -/
def fnAndOfSpec : ChangeSpec := { name := "fnAndOf", fn := fun _ => fun
  | [d] => { results := [.lit (.bool true)], args := [d] }
  | _ => none }
def fnAndOfRow : OpenClaim := { program := "ytienckflffiipaa", sum := "d4fdea5cb50a2158148d3027edff5a2cb47bb268f2a04e90dc57a6551e5deed1", func := "loop.example/tablehouse/laws.FnAndOf", spec := "fnAndOf", apart := false }
def FnAndOfSaid : Prop := fnAndOfRow.holds Try.pinned (OpenSpec.ofChange fnAndOfSpec)

/-- ITS FALSE NEIGHBOUR: 'it returns false'. Refute it at one input. -/
def fnAndOfWrong : ChangeSpec := { name := "fnAndOf", fn := fun _ => fun
  | [d] => { results := [.lit (.bool false)], args := [d] }
  | _ => none }
def FnAndOfWrongFalsely : Prop := fnAndOfRow.holds Try.pinned (OpenSpec.ofChange fnAndOfWrong)

/-- 'laws.FnExactValueOk': WHATEVER THE INPUT: true; the input reads as it did. -/
def fnExactValueOkSpec : ChangeSpec := { name := "fnExactValueOk", fn := fun _ => fun
  | [d] => { results := [.lit (.bool true)], args := [d] }
  | _ => none }
def fnExactValueOkRow : OpenClaim := { program := "ytienckflffiipaa", sum := "d4fdea5cb50a2158148d3027edff5a2cb47bb268f2a04e90dc57a6551e5deed1", func := "loop.example/tablehouse/laws.FnExactValueOk", spec := "fnExactValueOk", apart := false }
def FnExactValueOkSaid : Prop := fnExactValueOkRow.holds Try.pinned (OpenSpec.ofChange fnExactValueOkSpec)

/-- ITS FALSE NEIGHBOUR: 'it returns false'. Refute it at one input. -/
def fnExactValueOkWrong : ChangeSpec := { name := "fnExactValueOk", fn := fun _ => fun
  | [d] => { results := [.lit (.bool false)], args := [d] }
  | _ => none }
def FnExactValueOkWrongFalsely : Prop := fnExactValueOkRow.holds Try.pinned (OpenSpec.ofChange fnExactValueOkWrong)

/-- 'laws.FnValueOf': WHATEVER THE INPUT: true; the input reads as it did. -/
def fnValueOfSpec : ChangeSpec := { name := "fnValueOf", fn := fun _ => fun
  | [d] => { results := [.lit (.bool true)], args := [d] }
  | _ => none }
def fnValueOfRow : OpenClaim := { program := "ytienckflffiipaa", sum := "d4fdea5cb50a2158148d3027edff5a2cb47bb268f2a04e90dc57a6551e5deed1", func := "loop.example/tablehouse/laws.FnValueOf", spec := "fnValueOf", apart := false }
def FnValueOfSaid : Prop := fnValueOfRow.holds Try.pinned (OpenSpec.ofChange fnValueOfSpec)

/-- ITS FALSE NEIGHBOUR: 'it returns false'. Refute it at one input. -/
def fnValueOfWrong : ChangeSpec := { name := "fnValueOf", fn := fun _ => fun
  | [d] => { results := [.lit (.bool false)], args := [d] }
  | _ => none }
def FnValueOfWrongFalsely : Prop := fnValueOfRow.holds Try.pinned (OpenSpec.ofChange fnValueOfWrong)

/- THE SECOND FORM. 'bulk': how many values and letters a reading holds, each counted each time it is reached (what is shared counts as often as it is met; a slice's spare places count too). A statement '..UptoSaid' is the law's where the arguments, and the package variables that the reading takes, are together of bulk at most 1048576: NARROWER than '..Said'. Prove '..Said' where nothing that the law and all that it calls make is longer than what came in: it says more and counts as full. Else prove '..UptoSaid'. A law counts once. -/
mutual
def uptoBulk {H : Type} : DataW H → Nat
  | .lit (.string bytes) => bytes.length + 1
  | .lit _ => 1
  | .nil => 1
  | .ptr d => uptoBulk d + 1
  | .slice elems spare => uptoBulkAll elems + uptoBulkAll spare + 1
  | .agg parts => uptoBulkAll parts + 1
  | .iface _ d => uptoBulk d + 1
  | .map entries => uptoBulkEntries entries + 1
  | .held _ => 1
def uptoBulkAll {H : Type} : List (DataW H) → Nat
  | [] => 0
  | d :: r => uptoBulk d + uptoBulkAll r
def uptoBulkEntries {H : Type} : List (Lit × DataW H) → Nat
  | [] => 0
  | x :: r => uptoBulkEntry x + uptoBulkEntries r
def uptoBulkEntry {H : Type} : Lit × DataW H → Nat
  | (.string bytes, d) => bytes.length + uptoBulk d + 1
  | (_, d) => uptoBulk d + 1
 end
def uptoSmall : (H : Type) → List (DataW H) → Bool := fun _ ds => decide (uptoBulkAll ds ≤ 1048576)
def OpenSpec.upto (s : _root_.Go.ChangeSpec) : _root_.Go.OpenSpec := { _root_.Go.OpenSpec.ofChange s with cond := some uptoSmall }

/-- 'laws.FnExactConstants', WHERE WHAT IT READS IS OF BULK AT MOST 1048576: true; the input reads as it did. -/
def fnExactConstantsUptoRow : OpenClaim := { program := "ytienckflffiipaa", sum := "d4fdea5cb50a2158148d3027edff5a2cb47bb268f2a04e90dc57a6551e5deed1", func := "loop.example/tablehouse/laws.FnExactConstants", spec := "fnExactConstants", apart := false, narrowed := true }
def FnExactConstantsUptoSaid : Prop := fnExactConstantsUptoRow.holds Try.pinned (OpenSpec.upto fnExactConstantsSpec)

/-- 'laws.FnExactTruthOk', WHERE WHAT IT READS IS OF BULK AT MOST 1048576: true; the input reads as it did. -/
def fnExactTruthOkUptoRow : OpenClaim := { program := "ytienckflffiipaa", sum := "d4fdea5cb50a2158148d3027edff5a2cb47bb268f2a04e90dc57a6551e5deed1", func := "loop.example/tablehouse/laws.FnExactTruthOk", spec := "fnExactTruthOk", apart := false, narrowed := true }
def FnExactTruthOkUptoSaid : Prop := fnExactTruthOkUptoRow.holds Try.pinned (OpenSpec.upto fnExactTruthOkSpec)

/-- 'laws.FnExactValueOf', WHERE WHAT IT READS IS OF BULK AT MOST 1048576: true; the input reads as it did. -/
def fnExactValueOfUptoRow : OpenClaim := { program := "ytienckflffiipaa", sum := "d4fdea5cb50a2158148d3027edff5a2cb47bb268f2a04e90dc57a6551e5deed1", func := "loop.example/tablehouse/laws.FnExactValueOf", spec := "fnExactValueOf", apart := false, narrowed := true }
def FnExactValueOfUptoSaid : Prop := fnExactValueOfUptoRow.holds Try.pinned (OpenSpec.upto fnExactValueOfSpec)

/-- 'laws.FnExactNotOf', WHERE WHAT IT READS IS OF BULK AT MOST 1048576: true; the input reads as it did. -/
def fnExactNotOfUptoRow : OpenClaim := { program := "ytienckflffiipaa", sum := "d4fdea5cb50a2158148d3027edff5a2cb47bb268f2a04e90dc57a6551e5deed1", func := "loop.example/tablehouse/laws.FnExactNotOf", spec := "fnExactNotOf", apart := false, narrowed := true }
def FnExactNotOfUptoSaid : Prop := fnExactNotOfUptoRow.holds Try.pinned (OpenSpec.upto fnExactNotOfSpec)

/-- 'laws.FnExactAndOf', WHERE WHAT IT READS IS OF BULK AT MOST 1048576: true; the input reads as it did. -/
def fnExactAndOfUptoRow : OpenClaim := { program := "ytienckflffiipaa", sum := "d4fdea5cb50a2158148d3027edff5a2cb47bb268f2a04e90dc57a6551e5deed1", func := "loop.example/tablehouse/laws.FnExactAndOf", spec := "fnExactAndOf", apart := false, narrowed := true }
def FnExactAndOfUptoSaid : Prop := fnExactAndOfUptoRow.holds Try.pinned (OpenSpec.upto fnExactAndOfSpec)

/-- 'laws.FnExactOrOf', WHERE WHAT IT READS IS OF BULK AT MOST 1048576: true; the input reads as it did. -/
def fnExactOrOfUptoRow : OpenClaim := { program := "ytienckflffiipaa", sum := "d4fdea5cb50a2158148d3027edff5a2cb47bb268f2a04e90dc57a6551e5deed1", func := "loop.example/tablehouse/laws.FnExactOrOf", spec := "fnExactOrOf", apart := false, narrowed := true }
def FnExactOrOfUptoSaid : Prop := fnExactOrOfUptoRow.holds Try.pinned (OpenSpec.upto fnExactOrOfSpec)

/-- 'laws.FnTruthOk', WHERE WHAT IT READS IS OF BULK AT MOST 1048576: true; the input reads as it did. -/
def fnTruthOkUptoRow : OpenClaim := { program := "ytienckflffiipaa", sum := "d4fdea5cb50a2158148d3027edff5a2cb47bb268f2a04e90dc57a6551e5deed1", func := "loop.example/tablehouse/laws.FnTruthOk", spec := "fnTruthOk", apart := false, narrowed := true }
def FnTruthOkUptoSaid : Prop := fnTruthOkUptoRow.holds Try.pinned (OpenSpec.upto fnTruthOkSpec)

/-- 'laws.FnNotOf', WHERE WHAT IT READS IS OF BULK AT MOST 1048576: true; the input reads as it did. -/
def fnNotOfUptoRow : OpenClaim := { program := "ytienckflffiipaa", sum := "d4fdea5cb50a2158148d3027edff5a2cb47bb268f2a04e90dc57a6551e5deed1", func := "loop.example/tablehouse/laws.FnNotOf", spec := "fnNotOf", apart := false, narrowed := true }
def FnNotOfUptoSaid : Prop := fnNotOfUptoRow.holds Try.pinned (OpenSpec.upto fnNotOfSpec)

/-- 'laws.FnOrOf', WHERE WHAT IT READS IS OF BULK AT MOST 1048576: true; the input reads as it did. -/
def fnOrOfUptoRow : OpenClaim := { program := "ytienckflffiipaa", sum := "d4fdea5cb50a2158148d3027edff5a2cb47bb268f2a04e90dc57a6551e5deed1", func := "loop.example/tablehouse/laws.FnOrOf", spec := "fnOrOf", apart := false, narrowed := true }
def FnOrOfUptoSaid : Prop := fnOrOfUptoRow.holds Try.pinned (OpenSpec.upto fnOrOfSpec)

/-- 'laws.FnAndOf', WHERE WHAT IT READS IS OF BULK AT MOST 1048576: true; the input reads as it did. -/
def fnAndOfUptoRow : OpenClaim := { program := "ytienckflffiipaa", sum := "d4fdea5cb50a2158148d3027edff5a2cb47bb268f2a04e90dc57a6551e5deed1", func := "loop.example/tablehouse/laws.FnAndOf", spec := "fnAndOf", apart := false, narrowed := true }
def FnAndOfUptoSaid : Prop := fnAndOfUptoRow.holds Try.pinned (OpenSpec.upto fnAndOfSpec)

/-- 'laws.FnExactValueOk', WHERE WHAT IT READS IS OF BULK AT MOST 1048576: true; the input reads as it did. -/
def fnExactValueOkUptoRow : OpenClaim := { program := "ytienckflffiipaa", sum := "d4fdea5cb50a2158148d3027edff5a2cb47bb268f2a04e90dc57a6551e5deed1", func := "loop.example/tablehouse/laws.FnExactValueOk", spec := "fnExactValueOk", apart := false, narrowed := true }
def FnExactValueOkUptoSaid : Prop := fnExactValueOkUptoRow.holds Try.pinned (OpenSpec.upto fnExactValueOkSpec)

/-- 'laws.FnValueOf', WHERE WHAT IT READS IS OF BULK AT MOST 1048576: true; the input reads as it did. -/
def fnValueOfUptoRow : OpenClaim := { program := "ytienckflffiipaa", sum := "d4fdea5cb50a2158148d3027edff5a2cb47bb268f2a04e90dc57a6551e5deed1", func := "loop.example/tablehouse/laws.FnValueOf", spec := "fnValueOf", apart := false, narrowed := true }
def FnValueOfUptoSaid : Prop := fnValueOfUptoRow.holds Try.pinned (OpenSpec.upto fnValueOfSpec)

end Rows
end Go.Proofs.Ytienckflffiipaa
