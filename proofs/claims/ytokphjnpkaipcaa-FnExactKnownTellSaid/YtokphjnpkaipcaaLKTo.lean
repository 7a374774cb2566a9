/- The laws' own copies and sizes of what is known; lemmas. -/
import Derived.Test.YtokphjnpkaipcaaX3
import Derived.Test.YtokphjnpkaipcaaX7
import Derived.Test.YtokphjnpkaipcaaLSz
import Derived.Test.YtokphjnpkaipcaaVMore
set_option linter.unusedVariables false
set_option linter.unusedSimpArgs false
namespace Go.Proofs.Ytokphjnpkaipcaa.Pure
open Go.RowKit Go.Proofs.Ytokphjnpkaipcaa.X Go.Proofs.YtokphjnpkaipcaaV.PrintWords Go.Proofs.YtokphjnpkaipcaaV.PrintLast Go.Proofs.YtokphjnpkaipcaaV.PrintMore

theorem szK_some (c a t n : Int) (s : ByteArray) (t2 n2 : Int) (s2 : ByteArray) (left : Int) : ∃ z, laws_szKnown.f c a t n s t2 n2 s2 left = some z := by
  unfold laws_szKnown.f
  obtain ⟨z, hz⟩ := sz_some t n s left
  rw [hz, Option.bind_some]
  split
  · exact ⟨_, rfl⟩
  · obtain ⟨z2, hz2⟩ := sz_some t2 n2 s2 z
    rw [hz2, Option.bind_some]
    split
    · exact ⟨_, rfl⟩
    · exact ⟨_, rfl⟩
theorem toK_eq (c a t n : Int) (s : ByteArray) (t2 n2 : Int) (s2 : ByteArray) : laws_toKnown.f c a t n s t2 n2 s2 = some (c, a, t, n, s, t2, n2, s2) := rfl

end Go.Proofs.Ytokphjnpkaipcaa.Pure
