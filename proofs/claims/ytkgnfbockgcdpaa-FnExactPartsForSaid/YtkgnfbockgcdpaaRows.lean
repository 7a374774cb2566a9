/-
  No cell of these rows narrows 'for every input' (looked for: loops, veiled, ifaces, maps, wideKeys, modest, calm, conditions, laid).
  DERIVED. THE GIVEN ROWS OF THIS SEAT. 12 by the template 'for every input the law returns true; each argument reads behind the call as it read before'; 0 by the template 'total and deterministic' (their statements: YtkgnfbockgcdpaaTotals.lean).
  GIVEN WITH THE SEED: the statements are not yours to turn. If you find one false, say at which input.
  Laid BY PROGRAM, IN A SANDBOX (cutbox-rows.mjs): the forced cells as the released guide's own fill.sh prints them over the translation eefd4d815142be79… (all of the seat's roots in one cut). By AI agents, Wed Nov 11 2026. No macro, syntax, notation, axiom, sorry.
-/
import Derived.Test.YtkgnfbockgcdpaaChecked
import GoSem.Claim
import GoSem.ClaimJoined
import GoSem.ClaimMapViews
import Derived.JoinedTies
import Derived.KernelRfl
namespace Go.Proofs.Ytkgnfbockgcdpaa
/- THE CELL 'sum', in the pinned program and in every row, IS THE sha256 OF THE DUMP (.gsa) THAT YtkgnfbockgcdpaaProg.lean LOADS. Nothing in Lean hashes anything: it is a label: what it is worth is what the hold of that sum in a sandbox is worth. -/
noncomputable def Try.pinned : Pinned := { name := "ytkgnfbockgcdpaa", sum := "eefd4d815142be795a757854147bfe3121082135881eb00c8e0fa5540be39e18", checked := Try.checked }
namespace Rows
def none {H : Type} : Left H := { results := [], args := [] }

/-- 'laws.FnExactCutsOk': WHATEVER THE INPUT: true; the input reads as it did. -/
def fnExactCutsOkSpec : ChangeSpec := { name := "fnExactCutsOk", fn := fun _ => fun
  | [d] => { results := [.lit (.bool true)], args := [d] }
  | _ => none }
def fnExactCutsOkRow : OpenClaim := { program := "ytkgnfbockgcdpaa", sum := "eefd4d815142be795a757854147bfe3121082135881eb00c8e0fa5540be39e18", func := "loop.example/tablehouse/laws.FnExactCutsOk", spec := "fnExactCutsOk", apart := false }
def FnExactCutsOkSaid : Prop := fnExactCutsOkRow.holds Try.pinned (OpenSpec.ofChange fnExactCutsOkSpec)

/-- ITS FALSE NEIGHBOUR: 'it returns false'. Refute it at one input. -/
def fnExactCutsOkWrong : ChangeSpec := { name := "fnExactCutsOk", fn := fun _ => fun
  | [d] => { results := [.lit (.bool false)], args := [d] }
  | _ => none }
def FnExactCutsOkWrongFalsely : Prop := fnExactCutsOkRow.holds Try.pinned (OpenSpec.ofChange fnExactCutsOkWrong)

/-- 'laws.FnExactColumnsOk': WHATEVER THE INPUT: true; the input reads as it did. -/
def fnExactColumnsOkSpec : ChangeSpec := { name := "fnExactColumnsOk", fn := fun _ => fun
  | [d] => { results := [.lit (.bool true)], args := [d] }
  | _ => none }
def fnExactColumnsOkRow : OpenClaim := { program := "ytkgnfbockgcdpaa", sum := "eefd4d815142be795a757854147bfe3121082135881eb00c8e0fa5540be39e18", func := "loop.example/tablehouse/laws.FnExactColumnsOk", spec := "fnExactColumnsOk", unfollowed := true, recurses := true, apart := false }
def FnExactColumnsOkSaid : Prop := fnExactColumnsOkRow.holds Try.pinned (OpenSpec.ofChange fnExactColumnsOkSpec)

/-- ITS FALSE NEIGHBOUR: 'it returns false'. Refute it at one input. -/
def fnExactColumnsOkWrong : ChangeSpec := { name := "fnExactColumnsOk", fn := fun _ => fun
  | [d] => { results := [.lit (.bool false)], args := [d] }
  | _ => none }
def FnExactColumnsOkWrongFalsely : Prop := fnExactColumnsOkRow.holds Try.pinned (OpenSpec.ofChange fnExactColumnsOkWrong)

/-- 'laws.FnExactCutMore': WHATEVER THE INPUT: true; the input reads as it did. -/
def fnExactCutMoreSpec : ChangeSpec := { name := "fnExactCutMore", fn := fun _ => fun
  | [d1, d2] => { results := [.lit (.bool true)], args := [d1, d2] }
  | _ => none }
def fnExactCutMoreRow : OpenClaim := { program := "ytkgnfbockgcdpaa", sum := "eefd4d815142be795a757854147bfe3121082135881eb00c8e0fa5540be39e18", func := "loop.example/tablehouse/laws.FnExactCutMore", spec := "fnExactCutMore", inPlace := ["slices.overlaps[int]"], apart := false }
def FnExactCutMoreSaid : Prop := fnExactCutMoreRow.holds Try.pinned (OpenSpec.ofChange fnExactCutMoreSpec)

/-- ITS FALSE NEIGHBOUR: 'it returns false'. Refute it at one input. -/
def fnExactCutMoreWrong : ChangeSpec := { name := "fnExactCutMore", fn := fun _ => fun
  | [d1, d2] => { results := [.lit (.bool false)], args := [d1, d2] }
  | _ => none }
def FnExactCutMoreWrongFalsely : Prop := fnExactCutMoreRow.holds Try.pinned (OpenSpec.ofChange fnExactCutMoreWrong)

/-- 'laws.FnColumnsOk': WHATEVER THE INPUT: true; the input reads as it did. -/
def fnColumnsOkSpec : ChangeSpec := { name := "fnColumnsOk", fn := fun _ => fun
  | [d] => { results := [.lit (.bool true)], args := [d] }
  | _ => none }
def fnColumnsOkRow : OpenClaim := { program := "ytkgnfbockgcdpaa", sum := "eefd4d815142be795a757854147bfe3121082135881eb00c8e0fa5540be39e18", func := "loop.example/tablehouse/laws.FnColumnsOk", spec := "fnColumnsOk", unfollowed := true, recurses := true, apart := false }
def FnColumnsOkSaid : Prop := fnColumnsOkRow.holds Try.pinned (OpenSpec.ofChange fnColumnsOkSpec)

/-- ITS FALSE NEIGHBOUR: 'it returns false'. Refute it at one input. -/
def fnColumnsOkWrong : ChangeSpec := { name := "fnColumnsOk", fn := fun _ => fun
  | [d] => { results := [.lit (.bool false)], args := [d] }
  | _ => none }
def FnColumnsOkWrongFalsely : Prop := fnColumnsOkRow.holds Try.pinned (OpenSpec.ofChange fnColumnsOkWrong)

/-- 'laws.FnCutsOk': WHATEVER THE INPUT: true; the input reads as it did. -/
def fnCutsOkSpec : ChangeSpec := { name := "fnCutsOk", fn := fun _ => fun
  | [d] => { results := [.lit (.bool true)], args := [d] }
  | _ => none }
def fnCutsOkRow : OpenClaim := { program := "ytkgnfbockgcdpaa", sum := "eefd4d815142be795a757854147bfe3121082135881eb00c8e0fa5540be39e18", func := "loop.example/tablehouse/laws.FnCutsOk", spec := "fnCutsOk", apart := false }
def FnCutsOkSaid : Prop := fnCutsOkRow.holds Try.pinned (OpenSpec.ofChange fnCutsOkSpec)

/-- ITS FALSE NEIGHBOUR: 'it returns false'. Refute it at one input. -/
def fnCutsOkWrong : ChangeSpec := { name := "fnCutsOk", fn := fun _ => fun
  | [d] => { results := [.lit (.bool false)], args := [d] }
  | _ => none }
def FnCutsOkWrongFalsely : Prop := fnCutsOkRow.holds Try.pinned (OpenSpec.ofChange fnCutsOkWrong)

/-- 'laws.FnExactLeftColumns': WHATEVER THE INPUT: true; the input reads as it did. -/
def fnExactLeftColumnsSpec : ChangeSpec := { name := "fnExactLeftColumns", fn := fun _ => fun
  | [d1, d2] => { results := [.lit (.bool true)], args := [d1, d2] }
  | _ => none }
def fnExactLeftColumnsRow : OpenClaim := { program := "ytkgnfbockgcdpaa", sum := "eefd4d815142be795a757854147bfe3121082135881eb00c8e0fa5540be39e18", func := "loop.example/tablehouse/laws.FnExactLeftColumns", spec := "fnExactLeftColumns", unfollowed := true, recurses := true, apart := false }
def FnExactLeftColumnsSaid : Prop := fnExactLeftColumnsRow.holds Try.pinned (OpenSpec.ofChange fnExactLeftColumnsSpec)

/-- ITS FALSE NEIGHBOUR: 'it returns false'. Refute it at one input. -/
def fnExactLeftColumnsWrong : ChangeSpec := { name := "fnExactLeftColumns", fn := fun _ => fun
  | [d1, d2] => { results := [.lit (.bool false)], args := [d1, d2] }
  | _ => none }
def FnExactLeftColumnsWrongFalsely : Prop := fnExactLeftColumnsRow.holds Try.pinned (OpenSpec.ofChange fnExactLeftColumnsWrong)

/-- 'laws.FnLeftColumns': WHATEVER THE INPUT: true; the input reads as it did. -/
def fnLeftColumnsSpec : ChangeSpec := { name := "fnLeftColumns", fn := fun _ => fun
  | [d] => { results := [.lit (.bool true)], args := [d] }
  | _ => none }
def fnLeftColumnsRow : OpenClaim := { program := "ytkgnfbockgcdpaa", sum := "eefd4d815142be795a757854147bfe3121082135881eb00c8e0fa5540be39e18", func := "loop.example/tablehouse/laws.FnLeftColumns", spec := "fnLeftColumns", unfollowed := true, recurses := true, apart := false }
def FnLeftColumnsSaid : Prop := fnLeftColumnsRow.holds Try.pinned (OpenSpec.ofChange fnLeftColumnsSpec)

/-- ITS FALSE NEIGHBOUR: 'it returns false'. Refute it at one input. -/
def fnLeftColumnsWrong : ChangeSpec := { name := "fnLeftColumns", fn := fun _ => fun
  | [d] => { results := [.lit (.bool false)], args := [d] }
  | _ => none }
def FnLeftColumnsWrongFalsely : Prop := fnLeftColumnsRow.holds Try.pinned (OpenSpec.ofChange fnLeftColumnsWrong)

/-- 'laws.FnExactPartsFor': WHATEVER THE INPUT: true; the input reads as it did. -/
def fnExactPartsForSpec : ChangeSpec := { name := "fnExactPartsFor", fn := fun _ => fun
  | [d1, d2, d3] => { results := [.lit (.bool true)], args := [d1, d2, d3] }
  | _ => none }
def fnExactPartsForRow : OpenClaim := { program := "ytkgnfbockgcdpaa", sum := "eefd4d815142be795a757854147bfe3121082135881eb00c8e0fa5540be39e18", func := "loop.example/tablehouse/laws.FnExactPartsFor", spec := "fnExactPartsFor", unfollowed := true, recurses := true, apart := false }
def FnExactPartsForSaid : Prop := fnExactPartsForRow.holds Try.pinned (OpenSpec.ofChange fnExactPartsForSpec)

/-- ITS FALSE NEIGHBOUR: 'it returns false'. Refute it at one input. -/
def fnExactPartsForWrong : ChangeSpec := { name := "fnExactPartsFor", fn := fun _ => fun
  | [d1, d2, d3] => { results := [.lit (.bool false)], args := [d1, d2, d3] }
  | _ => none }
def FnExactPartsForWrongFalsely : Prop := fnExactPartsForRow.holds Try.pinned (OpenSpec.ofChange fnExactPartsForWrong)

/-- 'laws.FnExactPartOf': WHATEVER THE INPUT: true; the input reads as it did. -/
def fnExactPartOfSpec : ChangeSpec := { name := "fnExactPartOf", fn := fun _ => fun
  | [d1, d2] => { results := [.lit (.bool true)], args := [d1, d2] }
  | _ => none }
def fnExactPartOfRow : OpenClaim := { program := "ytkgnfbockgcdpaa", sum := "eefd4d815142be795a757854147bfe3121082135881eb00c8e0fa5540be39e18", func := "loop.example/tablehouse/laws.FnExactPartOf", spec := "fnExactPartOf", unfollowed := true, recurses := true, apart := false }
def FnExactPartOfSaid : Prop := fnExactPartOfRow.holds Try.pinned (OpenSpec.ofChange fnExactPartOfSpec)

/-- ITS FALSE NEIGHBOUR: 'it returns false'. Refute it at one input. -/
def fnExactPartOfWrong : ChangeSpec := { name := "fnExactPartOf", fn := fun _ => fun
  | [d1, d2] => { results := [.lit (.bool false)], args := [d1, d2] }
  | _ => none }
def FnExactPartOfWrongFalsely : Prop := fnExactPartOfRow.holds Try.pinned (OpenSpec.ofChange fnExactPartOfWrong)

/-- 'laws.FnPartOf': WHATEVER THE INPUT: true; the input reads as it did. -/
def fnPartOfSpec : ChangeSpec := { name := "fnPartOf", fn := fun _ => fun
  | [d] => { results := [.lit (.bool true)], args := [d] }
  | _ => none }
def fnPartOfRow : OpenClaim := { program := "ytkgnfbockgcdpaa", sum := "eefd4d815142be795a757854147bfe3121082135881eb00c8e0fa5540be39e18", func := "loop.example/tablehouse/laws.FnPartOf", spec := "fnPartOf", unfollowed := true, recurses := true, apart := false }
def FnPartOfSaid : Prop := fnPartOfRow.holds Try.pinned (OpenSpec.ofChange fnPartOfSpec)

/-- ITS FALSE NEIGHBOUR: 'it returns false'. Refute it at one input. -/
def fnPartOfWrong : ChangeSpec := { name := "fnPartOf", fn := fun _ => fun
  | [d] => { results := [.lit (.bool false)], args := [d] }
  | _ => none }
def FnPartOfWrongFalsely : Prop := fnPartOfRow.holds Try.pinned (OpenSpec.ofChange fnPartOfWrong)

/-- 'laws.FnExactPairsOk': WHATEVER THE INPUT: true; the input reads as it did. -/
def fnExactPairsOkSpec : ChangeSpec := { name := "fnExactPairsOk", fn := fun _ => fun
  | [d] => { results := [.lit (.bool true)], args := [d] }
  | _ => none }
def fnExactPairsOkRow : OpenClaim := { program := "ytkgnfbockgcdpaa", sum := "eefd4d815142be795a757854147bfe3121082135881eb00c8e0fa5540be39e18", func := "loop.example/tablehouse/laws.FnExactPairsOk", spec := "fnExactPairsOk", apart := false }
def FnExactPairsOkSaid : Prop := fnExactPairsOkRow.holds Try.pinned (OpenSpec.ofChange fnExactPairsOkSpec)

/-- ITS FALSE NEIGHBOUR: 'it returns false'. Refute it at one input. -/
def fnExactPairsOkWrong : ChangeSpec := { name := "fnExactPairsOk", fn := fun _ => fun
  | [d] => { results := [.lit (.bool false)], args := [d] }
  | _ => none }
def FnExactPairsOkWrongFalsely : Prop := fnExactPairsOkRow.holds Try.pinned (OpenSpec.ofChange fnExactPairsOkWrong)

/-- 'laws.FnPairsOk': WHATEVER THE INPUT: true; the input reads as it did. -/
def fnPairsOkSpec : ChangeSpec := { name := "fnPairsOk", fn := fun _ => fun
  | [d] => { results := [.lit (.bool true)], args := [d] }
  | _ => none }
def fnPairsOkRow : OpenClaim := { program := "ytkgnfbockgcdpaa", sum := "eefd4d815142be795a757854147bfe3121082135881eb00c8e0fa5540be39e18", func := "loop.example/tablehouse/laws.FnPairsOk", spec := "fnPairsOk", apart := false }
def FnPairsOkSaid : Prop := fnPairsOkRow.holds Try.pinned (OpenSpec.ofChange fnPairsOkSpec)

/-- ITS FALSE NEIGHBOUR: 'it returns false'. Refute it at one input. -/
def fnPairsOkWrong : ChangeSpec := { name := "fnPairsOk", fn := fun _ => fun
  | [d] => { results := [.lit (.bool false)], args := [d] }
  | _ => none }
def FnPairsOkWrongFalsely : Prop := fnPairsOkRow.holds Try.pinned (OpenSpec.ofChange fnPairsOkWrong)

/- THE SECOND FORM. 'bulk': how many values and letters a reading holds, each counted each time it is reached (what is shared counts as often as it is met; a slice's spare places count too). A statement '..UptoSaid' is the law's where the arguments, and the package variables that the reading takes, are together of bulk at most 1048576: NARROWER than '..Said'. Prove '..Said' where nothing that the law and all that it calls make is longer than what came in: it says more and counts as full. Else prove '..UptoSaid'. A law counts once. -/
mutual
def uptoBulk {H : Type} : DataW H → Nat
  | .lit (.string bytes) => bytes.length + 1
  | .lit _ => 1
  | .nil => 1
  | .ptr d => uptoBulk d + 1
  | .slice elems spare => uptoBulkAll elems + uptoBulkAll spare + 1
  | .agg parts => uptoBulkAll parts + 1
  | .iface _ d => uptoBulk d + 1
  | .map entries => uptoBulkEntries entries + 1
  | .held _ => 1
def uptoBulkAll {H : Type} : List (DataW H) → Nat
  | [] => 0
  | d :: r => uptoBulk d + uptoBulkAll r
def uptoBulkEntries {H : Type} : List (Lit × DataW H) → Nat
  | [] => 0
  | x :: r => uptoBulkEntry x + uptoBulkEntries r
def uptoBulkEntry {H : Type} : Lit × DataW H → Nat
  | (.string bytes, d) => bytes.length + uptoBulk d + 1
  | (_, d) => uptoBulk d + 1
 end
def uptoSmall : (H : Type) → List (DataW H) → Bool := fun _ ds => decide (uptoBulkAll ds ≤ 1048576)
def OpenSpec.upto (s : _root_.Go.ChangeSpec) : _root_.Go.OpenSpec := { _root_.Go.OpenSpec.ofChange s with cond := some uptoSmall }

/-- 'laws.FnExactCutsOk', WHERE WHAT IT READS IS OF BULK AT MOST 1048576: true; the input reads as it did. -/
def fnExactCutsOkUptoRow : OpenClaim := { program := "ytkgnfbockgcdpaa", sum := "eefd4d815142be795a757854147bfe3121082135881eb00c8e0fa5540be39e18", func := "loop.example/tablehouse/laws.FnExactCutsOk", spec := "fnExactCutsOk", apart := false, narrowed := true }
def FnExactCutsOkUptoSaid : Prop := fnExactCutsOkUptoRow.holds Try.pinned (OpenSpec.upto fnExactCutsOkSpec)

/-- 'laws.FnExactColumnsOk', WHERE WHAT IT READS IS OF BULK AT MOST 1048576: true; the input reads as it did. -/
def fnExactColumnsOkUptoRow : OpenClaim := { program := "ytkgnfbockgcdpaa", sum := "eefd4d815142be795a757854147bfe3121082135881eb00c8e0fa5540be39e18", func := "loop.example/tablehouse/laws.FnExactColumnsOk", spec := "fnExactColumnsOk", unfollowed := true, recurses := true, apart := false, narrowed := true }
def FnExactColumnsOkUptoSaid : Prop := fnExactColumnsOkUptoRow.holds Try.pinned (OpenSpec.upto fnExactColumnsOkSpec)

/-- 'laws.FnExactCutMore', WHERE WHAT IT READS IS OF BULK AT MOST 1048576: true; the input reads as it did. -/
def fnExactCutMoreUptoRow : OpenClaim := { program := "ytkgnfbockgcdpaa", sum := "eefd4d815142be795a757854147bfe3121082135881eb00c8e0fa5540be39e18", func := "loop.example/tablehouse/laws.FnExactCutMore", spec := "fnExactCutMore", inPlace := ["slices.overlaps[int]"], apart := false, narrowed := true }
def FnExactCutMoreUptoSaid : Prop := fnExactCutMoreUptoRow.holds Try.pinned (OpenSpec.upto fnExactCutMoreSpec)

/-- 'laws.FnColumnsOk', WHERE WHAT IT READS IS OF BULK AT MOST 1048576: true; the input reads as it did. -/
def fnColumnsOkUptoRow : OpenClaim := { program := "ytkgnfbockgcdpaa", sum := "eefd4d815142be795a757854147bfe3121082135881eb00c8e0fa5540be39e18", func := "loop.example/tablehouse/laws.FnColumnsOk", spec := "fnColumnsOk", unfollowed := true, recurses := true, apart := false, narrowed := true }
def FnColumnsOkUptoSaid : Prop := fnColumnsOkUptoRow.holds Try.pinned (OpenSpec.upto fnColumnsOkSpec)

/-- 'laws.FnCutsOk', WHERE WHAT IT READS IS OF BULK AT MOST 1048576: true; the input reads as it did. -/
def fnCutsOkUptoRow : OpenClaim := { program := "ytkgnfbockgcdpaa", sum := "eefd4d815142be795a757854147bfe3121082135881eb00c8e0fa5540be39e18", func := "loop.example/tablehouse/laws.FnCutsOk", spec := "fnCutsOk", apart := false, narrowed := true }
def FnCutsOkUptoSaid : Prop := fnCutsOkUptoRow.holds Try.pinned (OpenSpec.upto fnCutsOkSpec)

/-- 'laws.FnExactLeftColumns', WHERE WHAT IT READS IS OF BULK AT MOST 1048576: true; the input reads as it did. -/
def fnExactLeftColumnsUptoRow : OpenClaim := { program := "ytkgnfbockgcdpaa", sum := "eefd4d815142be795a757854147bfe3121082135881eb00c8e0fa5540be39e18", func := "loop.example/tablehouse/laws.FnExactLeftColumns", spec := "fnExactLeftColumns", unfollowed := true, recurses := true, apart := false, narrowed := true }
def FnExactLeftColumnsUptoSaid : Prop := fnExactLeftColumnsUptoRow.holds Try.pinned (OpenSpec.upto fnExactLeftColumnsSpec)

/-- 'laws.FnLeftColumns', WHERE WHAT IT READS IS OF BULK AT MOST 1048576: true; the input reads as it did. -/
def fnLeftColumnsUptoRow : OpenClaim := { program := "ytkgnfbockgcdpaa", sum := "eefd4d815142be795a757854147bfe3121082135881eb00c8e0fa5540be39e18", func := "loop.example/tablehouse/laws.FnLeftColumns", spec := "fnLeftColumns", unfollowed := true, recurses := true, apart := false, narrowed := true }
def FnLeftColumnsUptoSaid : Prop := fnLeftColumnsUptoRow.holds Try.pinned (OpenSpec.upto fnLeftColumnsSpec)

/-- 'laws.FnExactPartsFor', WHERE WHAT IT READS IS OF BULK AT MOST 1048576: true; the input reads as it did. -/
def fnExactPartsForUptoRow : OpenClaim := { program := "ytkgnfbockgcdpaa", sum := "eefd4d815142be795a757854147bfe3121082135881eb00c8e0fa5540be39e18", func := "loop.example/tablehouse/laws.FnExactPartsFor", spec := "fnExactPartsFor", unfollowed := true, recurses := true, apart := false, narrowed := true }
def FnExactPartsForUptoSaid : Prop := fnExactPartsForUptoRow.holds Try.pinned (OpenSpec.upto fnExactPartsForSpec)

/-- 'laws.FnExactPartOf', WHERE WHAT IT READS IS OF BULK AT MOST 1048576: true; the input reads as it did. -/
def fnExactPartOfUptoRow : OpenClaim := { program := "ytkgnfbockgcdpaa", sum := "eefd4d815142be795a757854147bfe3121082135881eb00c8e0fa5540be39e18", func := "loop.example/tablehouse/laws.FnExactPartOf", spec := "fnExactPartOf", unfollowed := true, recurses := true, apart := false, narrowed := true }
def FnExactPartOfUptoSaid : Prop := fnExactPartOfUptoRow.holds Try.pinned (OpenSpec.upto fnExactPartOfSpec)

/-- 'laws.FnPartOf', WHERE WHAT IT READS IS OF BULK AT MOST 1048576: true; the input reads as it did. -/
def fnPartOfUptoRow : OpenClaim := { program := "ytkgnfbockgcdpaa", sum := "eefd4d815142be795a757854147bfe3121082135881eb00c8e0fa5540be39e18", func := "loop.example/tablehouse/laws.FnPartOf", spec := "fnPartOf", unfollowed := true, recurses := true, apart := false, narrowed := true }
def FnPartOfUptoSaid : Prop := fnPartOfUptoRow.holds Try.pinned (OpenSpec.upto fnPartOfSpec)

/-- 'laws.FnExactPairsOk', WHERE WHAT IT READS IS OF BULK AT MOST 1048576: true; the input reads as it did. -/
def fnExactPairsOkUptoRow : OpenClaim := { program := "ytkgnfbockgcdpaa", sum := "eefd4d815142be795a757854147bfe3121082135881eb00c8e0fa5540be39e18", func := "loop.example/tablehouse/laws.FnExactPairsOk", spec := "fnExactPairsOk", apart := false, narrowed := true }
def FnExactPairsOkUptoSaid : Prop := fnExactPairsOkUptoRow.holds Try.pinned (OpenSpec.upto fnExactPairsOkSpec)

/-- 'laws.FnPairsOk', WHERE WHAT IT READS IS OF BULK AT MOST 1048576: true; the input reads as it did. -/
def fnPairsOkUptoRow : OpenClaim := { program := "ytkgnfbockgcdpaa", sum := "eefd4d815142be795a757854147bfe3121082135881eb00c8e0fa5540be39e18", func := "loop.example/tablehouse/laws.FnPairsOk", spec := "fnPairsOk", apart := false, narrowed := true }
def FnPairsOkUptoSaid : Prop := fnPairsOkUptoRow.holds Try.pinned (OpenSpec.upto fnPairsOkSpec)

end Rows
end Go.Proofs.Ytkgnfbockgcdpaa
