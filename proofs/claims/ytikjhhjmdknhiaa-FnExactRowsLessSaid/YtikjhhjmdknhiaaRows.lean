/-
  No cell of these rows narrows 'for every input' (looked for: loops, veiled, ifaces, maps, wideKeys, modest, calm, conditions, laid).
  DERIVED. THE GIVEN ROWS OF THIS SEAT. 9 by the template 'for every input the law returns true; each argument reads behind the call as it read before'; 0 by the template 'total and deterministic' (their statements: YtikjhhjmdknhiaaTotals.lean).
  GIVEN WITH THE SEED: the statements are not yours to turn. If you find one false, say at which input.
  Laid BY PROGRAM, IN A SANDBOX (cutbox-rows.mjs): the forced cells as the released guide's own fill.sh prints them over the translation 51dde65cb541688b… (all of the seat's roots in one cut). By AI agents, Wed Nov 11 2026. No macro, syntax, notation, axiom, sorry.
-/
import Derived.Test.YtikjhhjmdknhiaaChecked
import GoSem.Claim
import GoSem.ClaimJoined
import GoSem.ClaimMapViews
import Derived.JoinedTies
import Derived.KernelRfl
namespace Go.Proofs.Ytikjhhjmdknhiaa
/- THE CELL 'sum', in the pinned program and in every row, IS THE sha256 OF THE DUMP (.gsa) THAT YtikjhhjmdknhiaaProg.lean LOADS. Nothing in Lean hashes anything: it is a label: what it is worth is what the hold of that sum in a sandbox is worth. -/
noncomputable def Try.pinned : Pinned := { name := "ytikjhhjmdknhiaa", sum := "51dde65cb541688b3b4e389e67f880d8f7f32c03c37f17d208f3f6cb78be8730", checked := Try.checked }
namespace Rows
def none {H : Type} : Left H := { results := [], args := [] }

/-- 'laws.FnExactRowsLess': WHATEVER THE INPUT: true; the input reads as it did. -/
def fnExactRowsLessSpec : ChangeSpec := { name := "fnExactRowsLess", fn := fun _ => fun
  | [d1, d2] => { results := [.lit (.bool true)], args := [d1, d2] }
  | _ => none }
def fnExactRowsLessRow : OpenClaim := { program := "ytikjhhjmdknhiaa", sum := "51dde65cb541688b3b4e389e67f880d8f7f32c03c37f17d208f3f6cb78be8730", func := "loop.example/tablehouse/laws.FnExactRowsLess", spec := "fnExactRowsLess", apart := false }
def FnExactRowsLessSaid : Prop := fnExactRowsLessRow.holds Try.pinned (OpenSpec.ofChange fnExactRowsLessSpec)

/-- ITS FALSE NEIGHBOUR: 'it returns false'. Refute it at one input. -/
def fnExactRowsLessWrong : ChangeSpec := { name := "fnExactRowsLess", fn := fun _ => fun
  | [d1, d2] => { results := [.lit (.bool false)], args := [d1, d2] }
  | _ => none }
def FnExactRowsLessWrongFalsely : Prop := fnExactRowsLessRow.holds Try.pinned (OpenSpec.ofChange fnExactRowsLessWrong)

/-- 'laws.FnExactRowMany': WHATEVER THE INPUT: true; the input reads as it did. -/
def fnExactRowManySpec : ChangeSpec := { name := "fnExactRowMany", fn := fun _ => fun
  | [d1, d2] => { results := [.lit (.bool true)], args := [d1, d2] }
  | _ => none }
def fnExactRowManyRow : OpenClaim := { program := "ytikjhhjmdknhiaa", sum := "51dde65cb541688b3b4e389e67f880d8f7f32c03c37f17d208f3f6cb78be8730", func := "loop.example/tablehouse/laws.FnExactRowMany", spec := "fnExactRowMany", apart := false }
def FnExactRowManySaid : Prop := fnExactRowManyRow.holds Try.pinned (OpenSpec.ofChange fnExactRowManySpec)

/-- ITS FALSE NEIGHBOUR: 'it returns false'. Refute it at one input. -/
def fnExactRowManyWrong : ChangeSpec := { name := "fnExactRowMany", fn := fun _ => fun
  | [d1, d2] => { results := [.lit (.bool false)], args := [d1, d2] }
  | _ => none }
def FnExactRowManyWrongFalsely : Prop := fnExactRowManyRow.holds Try.pinned (OpenSpec.ofChange fnExactRowManyWrong)

/-- 'laws.FnExactSameBag': WHATEVER THE INPUT: true; the input reads as it did. -/
def fnExactSameBagSpec : ChangeSpec := { name := "fnExactSameBag", fn := fun _ => fun
  | [d1, d2] => { results := [.lit (.bool true)], args := [d1, d2] }
  | _ => none }
def fnExactSameBagRow : OpenClaim := { program := "ytikjhhjmdknhiaa", sum := "51dde65cb541688b3b4e389e67f880d8f7f32c03c37f17d208f3f6cb78be8730", func := "loop.example/tablehouse/laws.FnExactSameBag", spec := "fnExactSameBag", apart := false }
def FnExactSameBagSaid : Prop := fnExactSameBagRow.holds Try.pinned (OpenSpec.ofChange fnExactSameBagSpec)

/-- ITS FALSE NEIGHBOUR: 'it returns false'. Refute it at one input. -/
def fnExactSameBagWrong : ChangeSpec := { name := "fnExactSameBag", fn := fun _ => fun
  | [d1, d2] => { results := [.lit (.bool false)], args := [d1, d2] }
  | _ => none }
def FnExactSameBagWrongFalsely : Prop := fnExactSameBagRow.holds Try.pinned (OpenSpec.ofChange fnExactSameBagWrong)

/-- 'laws.FnRowMany': WHATEVER THE INPUT: true; the input reads as it did. -/
def fnRowManySpec : ChangeSpec := { name := "fnRowMany", fn := fun _ => fun
  | [d] => { results := [.lit (.bool true)], args := [d] }
  | _ => none }
def fnRowManyRow : OpenClaim := { program := "ytikjhhjmdknhiaa", sum := "51dde65cb541688b3b4e389e67f880d8f7f32c03c37f17d208f3f6cb78be8730", func := "loop.example/tablehouse/laws.FnRowMany", spec := "fnRowMany", apart := false }
def FnRowManySaid : Prop := fnRowManyRow.holds Try.pinned (OpenSpec.ofChange fnRowManySpec)

/-- ITS FALSE NEIGHBOUR: 'it returns false'. Refute it at one input. -/
def fnRowManyWrong : ChangeSpec := { name := "fnRowMany", fn := fun _ => fun
  | [d] => { results := [.lit (.bool false)], args := [d] }
  | _ => none }
def FnRowManyWrongFalsely : Prop := fnRowManyRow.holds Try.pinned (OpenSpec.ofChange fnRowManyWrong)

/-- 'laws.FnExactRowsOnce': WHATEVER THE INPUT: true; the input reads as it did. -/
def fnExactRowsOnceSpec : ChangeSpec := { name := "fnExactRowsOnce", fn := fun _ => fun
  | [d] => { results := [.lit (.bool true)], args := [d] }
  | _ => none }
def fnExactRowsOnceRow : OpenClaim := { program := "ytikjhhjmdknhiaa", sum := "51dde65cb541688b3b4e389e67f880d8f7f32c03c37f17d208f3f6cb78be8730", func := "loop.example/tablehouse/laws.FnExactRowsOnce", spec := "fnExactRowsOnce", apart := false }
def FnExactRowsOnceSaid : Prop := fnExactRowsOnceRow.holds Try.pinned (OpenSpec.ofChange fnExactRowsOnceSpec)

/-- ITS FALSE NEIGHBOUR: 'it returns false'. Refute it at one input. -/
def fnExactRowsOnceWrong : ChangeSpec := { name := "fnExactRowsOnce", fn := fun _ => fun
  | [d] => { results := [.lit (.bool false)], args := [d] }
  | _ => none }
def FnExactRowsOnceWrongFalsely : Prop := fnExactRowsOnceRow.holds Try.pinned (OpenSpec.ofChange fnExactRowsOnceWrong)

/-- 'laws.FnExactLocksOk': WHATEVER THE INPUT: true; the input reads as it did. -/
def fnExactLocksOkSpec : ChangeSpec := { name := "fnExactLocksOk", fn := fun _ => fun
  | [d] => { results := [.lit (.bool true)], args := [d] }
  | _ => none }
def fnExactLocksOkRow : OpenClaim := { program := "ytikjhhjmdknhiaa", sum := "51dde65cb541688b3b4e389e67f880d8f7f32c03c37f17d208f3f6cb78be8730", func := "loop.example/tablehouse/laws.FnExactLocksOk", spec := "fnExactLocksOk", unfollowed := true, recurses := true, apart := false }
def FnExactLocksOkSaid : Prop := fnExactLocksOkRow.holds Try.pinned (OpenSpec.ofChange fnExactLocksOkSpec)

/-- ITS FALSE NEIGHBOUR: 'it returns false'. Refute it at one input. -/
def fnExactLocksOkWrong : ChangeSpec := { name := "fnExactLocksOk", fn := fun _ => fun
  | [d] => { results := [.lit (.bool false)], args := [d] }
  | _ => none }
def FnExactLocksOkWrongFalsely : Prop := fnExactLocksOkRow.holds Try.pinned (OpenSpec.ofChange fnExactLocksOkWrong)

/-- 'laws.FnWholeShares': WHATEVER THE INPUT: true; the input reads as it did. -/
def fnWholeSharesSpec : ChangeSpec := { name := "fnWholeShares", fn := fun _ => fun
  | [d] => { results := [.lit (.bool true)], args := [d] }
  | _ => none }
def fnWholeSharesRow : OpenClaim := { program := "ytikjhhjmdknhiaa", sum := "51dde65cb541688b3b4e389e67f880d8f7f32c03c37f17d208f3f6cb78be8730", func := "loop.example/tablehouse/laws.FnWholeShares", spec := "fnWholeShares", unfollowed := true, recurses := true, apart := false }
def FnWholeSharesSaid : Prop := fnWholeSharesRow.holds Try.pinned (OpenSpec.ofChange fnWholeSharesSpec)

/-- ITS FALSE NEIGHBOUR: 'it returns false'. Refute it at one input. -/
def fnWholeSharesWrong : ChangeSpec := { name := "fnWholeShares", fn := fun _ => fun
  | [d] => { results := [.lit (.bool false)], args := [d] }
  | _ => none }
def FnWholeSharesWrongFalsely : Prop := fnWholeSharesRow.holds Try.pinned (OpenSpec.ofChange fnWholeSharesWrong)

/-- 'laws.FnExactGroupColumns': WHATEVER THE INPUT: true; the input reads as it did. -/
def fnExactGroupColumnsSpec : ChangeSpec := { name := "fnExactGroupColumns", fn := fun _ => fun
  | [d1, d2, d3, d4] => { results := [.lit (.bool true)], args := [d1, d2, d3, d4] }
  | _ => none }
def fnExactGroupColumnsRow : OpenClaim := { program := "ytikjhhjmdknhiaa", sum := "51dde65cb541688b3b4e389e67f880d8f7f32c03c37f17d208f3f6cb78be8730", func := "loop.example/tablehouse/laws.FnExactGroupColumns", spec := "fnExactGroupColumns", unfollowed := true, recurses := true, apart := false }
def FnExactGroupColumnsSaid : Prop := fnExactGroupColumnsRow.holds Try.pinned (OpenSpec.ofChange fnExactGroupColumnsSpec)

/-- ITS FALSE NEIGHBOUR: 'it returns false'. Refute it at one input. -/
def fnExactGroupColumnsWrong : ChangeSpec := { name := "fnExactGroupColumns", fn := fun _ => fun
  | [d1, d2, d3, d4] => { results := [.lit (.bool false)], args := [d1, d2, d3, d4] }
  | _ => none }
def FnExactGroupColumnsWrongFalsely : Prop := fnExactGroupColumnsRow.holds Try.pinned (OpenSpec.ofChange fnExactGroupColumnsWrong)

/-- 'laws.FnExactInTruth': WHATEVER THE INPUT: true; the input reads as it did. -/
def fnExactInTruthSpec : ChangeSpec := { name := "fnExactInTruth", fn := fun _ => fun
  | [d1, d2] => { results := [.lit (.bool true)], args := [d1, d2] }
  | _ => none }
def fnExactInTruthRow : OpenClaim := { program := "ytikjhhjmdknhiaa", sum := "51dde65cb541688b3b4e389e67f880d8f7f32c03c37f17d208f3f6cb78be8730", func := "loop.example/tablehouse/laws.FnExactInTruth", spec := "fnExactInTruth", unfollowed := true, recurses := true, apart := false }
def FnExactInTruthSaid : Prop := fnExactInTruthRow.holds Try.pinned (OpenSpec.ofChange fnExactInTruthSpec)

/-- ITS FALSE NEIGHBOUR: 'it returns false'. Refute it at one input. -/
def fnExactInTruthWrong : ChangeSpec := { name := "fnExactInTruth", fn := fun _ => fun
  | [d1, d2] => { results := [.lit (.bool false)], args := [d1, d2] }
  | _ => none }
def FnExactInTruthWrongFalsely : Prop := fnExactInTruthRow.holds Try.pinned (OpenSpec.ofChange fnExactInTruthWrong)

/- THE SECOND FORM. 'bulk': how many values and letters a reading holds, each counted each time it is reached (what is shared counts as often as it is met; a slice's spare places count too). A statement '..UptoSaid' is the law's where the arguments, and the package variables that the reading takes, are together of bulk at most 1048576: NARROWER than '..Said'. Prove '..Said' where nothing that the law and all that it calls make is longer than what came in: it says more and counts as full. Else prove '..UptoSaid'. A law counts once. -/
mutual
def uptoBulk {H : Type} : DataW H → Nat
  | .lit (.string bytes) => bytes.length + 1
  | .lit _ => 1
  | .nil => 1
  | .ptr d => uptoBulk d + 1
  | .slice elems spare => uptoBulkAll elems + uptoBulkAll spare + 1
  | .agg parts => uptoBulkAll parts + 1
  | .iface _ d => uptoBulk d + 1
  | .map entries => uptoBulkEntries entries + 1
  | .held _ => 1
def uptoBulkAll {H : Type} : List (DataW H) → Nat
  | [] => 0
  | d :: r => uptoBulk d + uptoBulkAll r
def uptoBulkEntries {H : Type} : List (Lit × DataW H) → Nat
  | [] => 0
  | x :: r => uptoBulkEntry x + uptoBulkEntries r
def uptoBulkEntry {H : Type} : Lit × DataW H → Nat
  | (.string bytes, d) => bytes.length + uptoBulk d + 1
  | (_, d) => uptoBulk d + 1
 end
def uptoSmall : (H : Type) → List (DataW H) → Bool := fun _ ds => decide (uptoBulkAll ds ≤ 1048576)
def OpenSpec.upto (s : _root_.Go.ChangeSpec) : _root_.Go.OpenSpec := { _root_.Go.OpenSpec.ofChange s with cond := some uptoSmall }

/-- 'laws.FnExactRowsLess', WHERE WHAT IT READS IS OF BULK AT MOST 1048576: true; the input reads as it did. -/
def fnExactRowsLessUptoRow : OpenClaim := { program := "ytikjhhjmdknhiaa", sum := "51dde65cb541688b3b4e389e67f880d8f7f32c03c37f17d208f3f6cb78be8730", func := "loop.example/tablehouse/laws.FnExactRowsLess", spec := "fnExactRowsLess", apart := false, narrowed := true }
def FnExactRowsLessUptoSaid : Prop := fnExactRowsLessUptoRow.holds Try.pinned (OpenSpec.upto fnExactRowsLessSpec)

/-- 'laws.FnExactRowMany', WHERE WHAT IT READS IS OF BULK AT MOST 1048576: true; the input reads as it did. -/
def fnExactRowManyUptoRow : OpenClaim := { program := "ytikjhhjmdknhiaa", sum := "51dde65cb541688b3b4e389e67f880d8f7f32c03c37f17d208f3f6cb78be8730", func := "loop.example/tablehouse/laws.FnExactRowMany", spec := "fnExactRowMany", apart := false, narrowed := true }
def FnExactRowManyUptoSaid : Prop := fnExactRowManyUptoRow.holds Try.pinned (OpenSpec.upto fnExactRowManySpec)

/-- 'laws.FnExactSameBag', WHERE WHAT IT READS IS OF BULK AT MOST 1048576: true; the input reads as it did. -/
def fnExactSameBagUptoRow : OpenClaim := { program := "ytikjhhjmdknhiaa", sum := "51dde65cb541688b3b4e389e67f880d8f7f32c03c37f17d208f3f6cb78be8730", func := "loop.example/tablehouse/laws.FnExactSameBag", spec := "fnExactSameBag", apart := false, narrowed := true }
def FnExactSameBagUptoSaid : Prop := fnExactSameBagUptoRow.holds Try.pinned (OpenSpec.upto fnExactSameBagSpec)

/-- 'laws.FnRowMany', WHERE WHAT IT READS IS OF BULK AT MOST 1048576: true; the input reads as it did. -/
def fnRowManyUptoRow : OpenClaim := { program := "ytikjhhjmdknhiaa", sum := "51dde65cb541688b3b4e389e67f880d8f7f32c03c37f17d208f3f6cb78be8730", func := "loop.example/tablehouse/laws.FnRowMany", spec := "fnRowMany", apart := false, narrowed := true }
def FnRowManyUptoSaid : Prop := fnRowManyUptoRow.holds Try.pinned (OpenSpec.upto fnRowManySpec)

/-- 'laws.FnExactRowsOnce', WHERE WHAT IT READS IS OF BULK AT MOST 1048576: true; the input reads as it did. -/
def fnExactRowsOnceUptoRow : OpenClaim := { program := "ytikjhhjmdknhiaa", sum := "51dde65cb541688b3b4e389e67f880d8f7f32c03c37f17d208f3f6cb78be8730", func := "loop.example/tablehouse/laws.FnExactRowsOnce", spec := "fnExactRowsOnce", apart := false, narrowed := true }
def FnExactRowsOnceUptoSaid : Prop := fnExactRowsOnceUptoRow.holds Try.pinned (OpenSpec.upto fnExactRowsOnceSpec)

/-- 'laws.FnExactLocksOk', WHERE WHAT IT READS IS OF BULK AT MOST 1048576: true; the input reads as it did. -/
def fnExactLocksOkUptoRow : OpenClaim := { program := "ytikjhhjmdknhiaa", sum := "51dde65cb541688b3b4e389e67f880d8f7f32c03c37f17d208f3f6cb78be8730", func := "loop.example/tablehouse/laws.FnExactLocksOk", spec := "fnExactLocksOk", unfollowed := true, recurses := true, apart := false, narrowed := true }
def FnExactLocksOkUptoSaid : Prop := fnExactLocksOkUptoRow.holds Try.pinned (OpenSpec.upto fnExactLocksOkSpec)

/-- 'laws.FnWholeShares', WHERE WHAT IT READS IS OF BULK AT MOST 1048576: true; the input reads as it did. -/
def fnWholeSharesUptoRow : OpenClaim := { program := "ytikjhhjmdknhiaa", sum := "51dde65cb541688b3b4e389e67f880d8f7f32c03c37f17d208f3f6cb78be8730", func := "loop.example/tablehouse/laws.FnWholeShares", spec := "fnWholeShares", unfollowed := true, recurses := true, apart := false, narrowed := true }
def FnWholeSharesUptoSaid : Prop := fnWholeSharesUptoRow.holds Try.pinned (OpenSpec.upto fnWholeSharesSpec)

/-- 'laws.FnExactGroupColumns', WHERE WHAT IT READS IS OF BULK AT MOST 1048576: true; the input reads as it did. -/
def fnExactGroupColumnsUptoRow : OpenClaim := { program := "ytikjhhjmdknhiaa", sum := "51dde65cb541688b3b4e389e67f880d8f7f32c03c37f17d208f3f6cb78be8730", func := "loop.example/tablehouse/laws.FnExactGroupColumns", spec := "fnExactGroupColumns", unfollowed := true, recurses := true, apart := false, narrowed := true }
def FnExactGroupColumnsUptoSaid : Prop := fnExactGroupColumnsUptoRow.holds Try.pinned (OpenSpec.upto fnExactGroupColumnsSpec)

/-- 'laws.FnExactInTruth', WHERE WHAT IT READS IS OF BULK AT MOST 1048576: true; the input reads as it did. -/
def fnExactInTruthUptoRow : OpenClaim := { program := "ytikjhhjmdknhiaa", sum := "51dde65cb541688b3b4e389e67f880d8f7f32c03c37f17d208f3f6cb78be8730", func := "loop.example/tablehouse/laws.FnExactInTruth", spec := "fnExactInTruth", unfollowed := true, recurses := true, apart := false, narrowed := true }
def FnExactInTruthUptoSaid : Prop := fnExactInTruthUptoRow.holds Try.pinned (OpenSpec.upto fnExactInTruthSpec)

end Rows
end Go.Proofs.Ytikjhhjmdknhiaa
