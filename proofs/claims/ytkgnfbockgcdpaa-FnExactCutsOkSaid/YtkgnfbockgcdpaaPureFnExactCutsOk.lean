/- The program's CutsOk returns what the reference's returns, for all arguments; no condition. -/
import Derived.Test.YtkgnfbockgcdpaaX7
import Derived.Test.YtkgnfbockgcdpaaLRise
set_option linter.unusedVariables false
set_option linter.unusedSimpArgs false
namespace Go.Proofs.Ytkgnfbockgcdpaa.Pure
open Go.RowKit Go.Proofs.Ytkgnfbockgcdpaa.X Go.Proofs.YtkgnfbockgcdpaaV.PrintWords Go.Proofs.YtkgnfbockgcdpaaV.PrintLast Go.Proofs.YtkgnfbockgcdpaaV.PrintMore

theorem FnExactCutsOk : laws_FnExactCutsOk.Pure := by
  intro l hl
  refine ⟨l.length + 1, ?_⟩
  unfold laws_FnExactCutsOk.f
  by_cases h : (l.length : Int) > 1048576
  · rw [if_pos h]
  · rw [if_neg h]
    obtain ⟨b, hb, hb'⟩ := spec_cuts l (by omega)
    obtain ⟨c, hc, hc'⟩ := impl_cuts l (by omega)
    have e : c = b := by
      rw [Bool.eq_iff_iff, hb', hc']
    rw [toIntS_eq l (by omega) _ (Nat.le_refl _)]
    simp only [Option.bind_some]
    rw [hb _ (Nat.le_refl _), hc _ (Nat.le_refl _)]
    simp only [Option.bind_some]
    rw [e, eqIntS_eq l (by omega) _ (Nat.le_refl _)]
    simp

end Go.Proofs.Ytkgnfbockgcdpaa.Pure
