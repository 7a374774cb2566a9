/- The laws' own copies and sizes of values; lemmas. -/
import Derived.Test.YtokphjnpkaipcaaX3
import Derived.Test.YtokphjnpkaipcaaX7
import Derived.Test.YtokphjnpkaipcaaVMore
set_option linter.unusedVariables false
set_option linter.unusedSimpArgs false
namespace Go.Proofs.Ytokphjnpkaipcaa.Pure
open Go.RowKit Go.Proofs.Ytokphjnpkaipcaa.X Go.Proofs.YtokphjnpkaipcaaV.PrintWords Go.Proofs.YtokphjnpkaipcaaV.PrintLast Go.Proofs.YtokphjnpkaipcaaV.PrintMore

theorem sz_some (t n : Int) (s : ByteArray) (left : Int) : ∃ z, laws_szValue.f t n s left = some z := by
  unfold laws_szValue.f
  split
  · exact ⟨_, rfl⟩
  · exact ⟨_, rfl⟩
theorem to_eq (t n : Int) (s : ByteArray) : laws_toValue.f t n s = some (t, n, s) := rfl

end Go.Proofs.Ytokphjnpkaipcaa.Pure
