/- The program's ColumnsOk returns what the reference's returns, for all arguments; no condition. -/
import Derived.Test.YtkgnfbockgcdpaaX11
import Derived.Test.YtkgnfbockgcdpaaLColsTo
set_option linter.unusedVariables false
set_option linter.unusedSimpArgs false
namespace Go.Proofs.Ytkgnfbockgcdpaa.Pure
open Go.RowKit Go.Proofs.Ytkgnfbockgcdpaa.X Go.Proofs.YtkgnfbockgcdpaaV.PrintWords Go.Proofs.YtkgnfbockgcdpaaV.PrintLast Go.Proofs.YtkgnfbockgcdpaaV.PrintMore

theorem FnExactColumnsOk : laws_FnExactColumnsOk.Pure := by
  intro l hl
  refine ⟨l.length + 4, ?_⟩
  unfold laws_FnExactColumnsOk.f laws_szColumnS.f
  by_cases h : wrap64 (1048576 - (l.length : Int)) < 0
  · rw [if_pos h, Option.bind_some, if_pos (by decide)]
  · have hm := (szC l hl.1 1048576 (by decide) (by decide) h).1
    rw [if_neg h, Option.bind_some, if_neg h, toColumnS_eq l (by omega) _ (by omega), Option.bind_some]
    obtain ⟨b, hb, hb'⟩ := spec_cols (l.map mkC) (by rw [List.length_map]; omega)
    obtain ⟨c, hc, hc'⟩ := impl_cols (l.map mkC)
    have e : c = b := by
      rw [Bool.eq_iff_iff, hb', hc']
    rw [hb _ (by rw [List.length_map]; omega), Option.bind_some, Option.bind_some, hc, Option.bind_some, e, if_neg (by simp), Option.bind_some, eqColumnS_eq _ (by rw [List.length_map]; omega) _ (by rw [List.length_map]; omega), Option.bind_some, if_pos rfl]

end Go.Proofs.Ytkgnfbockgcdpaa.Pure
