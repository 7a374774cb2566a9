/-
  No cell of these rows narrows 'for every input' (looked for: loops, veiled, ifaces, maps, wideKeys, modest, calm, conditions, laid).
  DERIVED. THE GIVEN ROWS OF THIS SEAT. 5 by the template 'for every input the law returns true; each argument reads behind the call as it read before'; 0 by the template 'total and deterministic' (their statements: YtalhkihppcjanaaTotals.lean).
  GIVEN WITH THE SEED: the statements are not yours to turn. If you find one false, say at which input.
  Laid BY PROGRAM, IN A SANDBOX (cutbox-rows.mjs): the forced cells as the released guide's own fill.sh prints them over the translation 6084363359714b44… (all of the seat's roots in one cut). By AI agents, Wed Nov 11 2026. No macro, syntax, notation, axiom, sorry.
-/
import Derived.Test.YtalhkihppcjanaaChecked
import GoSem.Claim
import GoSem.ClaimJoined
import GoSem.ClaimMapViews
import Derived.JoinedTies
import Derived.KernelRfl
namespace Go.Proofs.Ytalhkihppcjanaa
/- THE CELL 'sum', in the pinned program and in every row, IS THE sha256 OF THE DUMP (.gsa) THAT YtalhkihppcjanaaProg.lean LOADS. Nothing in Lean hashes anything: it is a label: what it is worth is what the hold of that sum in a sandbox is worth. -/
noncomputable def Try.pinned : Pinned := { name := "ytalhkihppcjanaa", sum := "6084363359714b44fccdf29d6671f20830edbd3ca19b957d5e00521006accff2", checked := Try.checked }
namespace Rows
def none {H : Type} : Left H := { results := [], args := [] }

/-- 'laws.FnExactCutMore': WHATEVER THE INPUT: true; the input reads as it did. -/
def fnExactCutMoreSpec : ChangeSpec := { name := "fnExactCutMore", fn := fun _ => fun
  | [d1, d2] => { results := [.lit (.bool true)], args := [d1, d2] }
  | _ => none }
def fnExactCutMoreRow : OpenClaim := { program := "ytalhkihppcjanaa", sum := "6084363359714b44fccdf29d6671f20830edbd3ca19b957d5e00521006accff2", func := "loop.example/tablehouse/laws.FnExactCutMore", spec := "fnExactCutMore", inPlace := ["slices.overlaps[int]"], apart := false }
def FnExactCutMoreSaid : Prop := fnExactCutMoreRow.holds Try.pinned (OpenSpec.ofChange fnExactCutMoreSpec)

/-- ITS FALSE NEIGHBOUR: 'it returns false'. Refute it at one input. -/
def fnExactCutMoreWrong : ChangeSpec := { name := "fnExactCutMore", fn := fun _ => fun
  | [d1, d2] => { results := [.lit (.bool false)], args := [d1, d2] }
  | _ => none }
def FnExactCutMoreWrongFalsely : Prop := fnExactCutMoreRow.holds Try.pinned (OpenSpec.ofChange fnExactCutMoreWrong)

/-- 'laws.FnExactHouseNew': WHATEVER THE INPUT: true; the input reads as it did. -/
def fnExactHouseNewSpec : ChangeSpec := { name := "fnExactHouseNew", fn := fun _ => fun
  | [d] => { results := [.lit (.bool true)], args := [d] }
  | _ => none }
def fnExactHouseNewRow : OpenClaim := { program := "ytalhkihppcjanaa", sum := "6084363359714b44fccdf29d6671f20830edbd3ca19b957d5e00521006accff2", func := "loop.example/tablehouse/laws.FnExactHouseNew", spec := "fnExactHouseNew", apart := false }
def FnExactHouseNewSaid : Prop := fnExactHouseNewRow.holds Try.pinned (OpenSpec.ofChange fnExactHouseNewSpec)

/-- ITS FALSE NEIGHBOUR: 'it returns false'. Refute it at one input. -/
def fnExactHouseNewWrong : ChangeSpec := { name := "fnExactHouseNew", fn := fun _ => fun
  | [d] => { results := [.lit (.bool false)], args := [d] }
  | _ => none }
def FnExactHouseNewWrongFalsely : Prop := fnExactHouseNewRow.holds Try.pinned (OpenSpec.ofChange fnExactHouseNewWrong)

/-- 'laws.FnRowMany': WHATEVER THE INPUT: true; the input reads as it did. -/
def fnRowManySpec : ChangeSpec := { name := "fnRowMany", fn := fun _ => fun
  | [d] => { results := [.lit (.bool true)], args := [d] }
  | _ => none }
def fnRowManyRow : OpenClaim := { program := "ytalhkihppcjanaa", sum := "6084363359714b44fccdf29d6671f20830edbd3ca19b957d5e00521006accff2", func := "loop.example/tablehouse/laws.FnRowMany", spec := "fnRowMany", apart := false }
def FnRowManySaid : Prop := fnRowManyRow.holds Try.pinned (OpenSpec.ofChange fnRowManySpec)

/-- ITS FALSE NEIGHBOUR: 'it returns false'. Refute it at one input. -/
def fnRowManyWrong : ChangeSpec := { name := "fnRowMany", fn := fun _ => fun
  | [d] => { results := [.lit (.bool false)], args := [d] }
  | _ => none }
def FnRowManyWrongFalsely : Prop := fnRowManyRow.holds Try.pinned (OpenSpec.ofChange fnRowManyWrong)

/-- 'laws.FnExactLocksOk': WHATEVER THE INPUT: true; the input reads as it did. -/
def fnExactLocksOkSpec : ChangeSpec := { name := "fnExactLocksOk", fn := fun _ => fun
  | [d] => { results := [.lit (.bool true)], args := [d] }
  | _ => none }
def fnExactLocksOkRow : OpenClaim := { program := "ytalhkihppcjanaa", sum := "6084363359714b44fccdf29d6671f20830edbd3ca19b957d5e00521006accff2", func := "loop.example/tablehouse/laws.FnExactLocksOk", spec := "fnExactLocksOk", unfollowed := true, recurses := true, apart := false }
def FnExactLocksOkSaid : Prop := fnExactLocksOkRow.holds Try.pinned (OpenSpec.ofChange fnExactLocksOkSpec)

/-- ITS FALSE NEIGHBOUR: 'it returns false'. Refute it at one input. -/
def fnExactLocksOkWrong : ChangeSpec := { name := "fnExactLocksOk", fn := fun _ => fun
  | [d] => { results := [.lit (.bool false)], args := [d] }
  | _ => none }
def FnExactLocksOkWrongFalsely : Prop := fnExactLocksOkRow.holds Try.pinned (OpenSpec.ofChange fnExactLocksOkWrong)

/-- 'laws.FnWholeShares': WHATEVER THE INPUT: true; the input reads as it did. -/
def fnWholeSharesSpec : ChangeSpec := { name := "fnWholeShares", fn := fun _ => fun
  | [d] => { results := [.lit (.bool true)], args := [d] }
  | _ => none }
def fnWholeSharesRow : OpenClaim := { program := "ytalhkihppcjanaa", sum := "6084363359714b44fccdf29d6671f20830edbd3ca19b957d5e00521006accff2", func := "loop.example/tablehouse/laws.FnWholeShares", spec := "fnWholeShares", unfollowed := true, recurses := true, apart := false }
def FnWholeSharesSaid : Prop := fnWholeSharesRow.holds Try.pinned (OpenSpec.ofChange fnWholeSharesSpec)

/-- ITS FALSE NEIGHBOUR: 'it returns false'. Refute it at one input. -/
def fnWholeSharesWrong : ChangeSpec := { name := "fnWholeShares", fn := fun _ => fun
  | [d] => { results := [.lit (.bool false)], args := [d] }
  | _ => none }
def FnWholeSharesWrongFalsely : Prop := fnWholeSharesRow.holds Try.pinned (OpenSpec.ofChange fnWholeSharesWrong)

/- THE SECOND FORM. 'bulk': how many values and letters a reading holds, each counted each time it is reached (what is shared counts as often as it is met; a slice's spare places count too). A statement '..UptoSaid' is the law's where the arguments, and the package variables that the reading takes, are together of bulk at most 1048576: NARROWER than '..Said'. Prove '..Said' where nothing that the law and all that it calls make is longer than what came in: it says more and counts as full. Else prove '..UptoSaid'. A law counts once. -/
mutual
def uptoBulk {H : Type} : DataW H → Nat
  | .lit (.string bytes) => bytes.length + 1
  | .lit _ => 1
  | .nil => 1
  | .ptr d => uptoBulk d + 1
  | .slice elems spare => uptoBulkAll elems + uptoBulkAll spare + 1
  | .agg parts => uptoBulkAll parts + 1
  | .iface _ d => uptoBulk d + 1
  | .map entries => uptoBulkEntries entries + 1
  | .held _ => 1
def uptoBulkAll {H : Type} : List (DataW H) → Nat
  | [] => 0
  | d :: r => uptoBulk d + uptoBulkAll r
def uptoBulkEntries {H : Type} : List (Lit × DataW H) → Nat
  | [] => 0
  | x :: r => uptoBulkEntry x + uptoBulkEntries r
def uptoBulkEntry {H : Type} : Lit × DataW H → Nat
  | (.string bytes, d) => bytes.length + uptoBulk d + 1
  | (_, d) => uptoBulk d + 1
 end
def uptoSmall : (H : Type) → List (DataW H) → Bool := fun _ ds => decide (uptoBulkAll ds ≤ 1048576)
def OpenSpec.upto (s : _root_.Go.ChangeSpec) : _root_.Go.OpenSpec := { _root_.Go.OpenSpec.ofChange s with cond := some uptoSmall }

/-- 'laws.FnExactCutMore', WHERE WHAT IT READS IS OF BULK AT MOST 1048576: true; the input reads as it did. -/
def fnExactCutMoreUptoRow : OpenClaim := { program := "ytalhkihppcjanaa", sum := "6084363359714b44fccdf29d6671f20830edbd3ca19b957d5e00521006accff2", func := "loop.example/tablehouse/laws.FnExactCutMore", spec := "fnExactCutMore", inPlace := ["slices.overlaps[int]"], apart := false, narrowed := true }
def FnExactCutMoreUptoSaid : Prop := fnExactCutMoreUptoRow.holds Try.pinned (OpenSpec.upto fnExactCutMoreSpec)

/-- 'laws.FnExactHouseNew', WHERE WHAT IT READS IS OF BULK AT MOST 1048576: true; the input reads as it did. -/
def fnExactHouseNewUptoRow : OpenClaim := { program := "ytalhkihppcjanaa", sum := "6084363359714b44fccdf29d6671f20830edbd3ca19b957d5e00521006accff2", func := "loop.example/tablehouse/laws.FnExactHouseNew", spec := "fnExactHouseNew", apart := false, narrowed := true }
def FnExactHouseNewUptoSaid : Prop := fnExactHouseNewUptoRow.holds Try.pinned (OpenSpec.upto fnExactHouseNewSpec)

/-- 'laws.FnRowMany', WHERE WHAT IT READS IS OF BULK AT MOST 1048576: true; the input reads as it did. -/
def fnRowManyUptoRow : OpenClaim := { program := "ytalhkihppcjanaa", sum := "6084363359714b44fccdf29d6671f20830edbd3ca19b957d5e00521006accff2", func := "loop.example/tablehouse/laws.FnRowMany", spec := "fnRowMany", apart := false, narrowed := true }
def FnRowManyUptoSaid : Prop := fnRowManyUptoRow.holds Try.pinned (OpenSpec.upto fnRowManySpec)

/-- 'laws.FnExactLocksOk', WHERE WHAT IT READS IS OF BULK AT MOST 1048576: true; the input reads as it did. -/
def fnExactLocksOkUptoRow : OpenClaim := { program := "ytalhkihppcjanaa", sum := "6084363359714b44fccdf29d6671f20830edbd3ca19b957d5e00521006accff2", func := "loop.example/tablehouse/laws.FnExactLocksOk", spec := "fnExactLocksOk", unfollowed := true, recurses := true, apart := false, narrowed := true }
def FnExactLocksOkUptoSaid : Prop := fnExactLocksOkUptoRow.holds Try.pinned (OpenSpec.upto fnExactLocksOkSpec)

/-- 'laws.FnWholeShares', WHERE WHAT IT READS IS OF BULK AT MOST 1048576: true; the input reads as it did. -/
def fnWholeSharesUptoRow : OpenClaim := { program := "ytalhkihppcjanaa", sum := "6084363359714b44fccdf29d6671f20830edbd3ca19b957d5e00521006accff2", func := "loop.example/tablehouse/laws.FnWholeShares", spec := "fnWholeShares", unfollowed := true, recurses := true, apart := false, narrowed := true }
def FnWholeSharesUptoSaid : Prop := fnWholeSharesUptoRow.holds Try.pinned (OpenSpec.upto fnWholeSharesSpec)

end Rows
end Go.Proofs.Ytalhkihppcjanaa
