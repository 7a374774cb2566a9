/- Values of truths are values: FnValueOf returns true for every list of bytes; no condition. -/
import Derived.Test.YtienckflffiipaaX18
import Derived.Test.YtienckflffiipaaX19
import Derived.Test.YtienckflffiipaaLPick
import Derived.Test.YtienckflffiipaaLOpen
import Derived.Test.YtienckflffiipaaLTruth
set_option linter.unusedVariables false
set_option linter.unusedSimpArgs false
namespace Go.Proofs.Ytienckflffiipaa.Pure
open Go.RowKit Go.Proofs.Ytienckflffiipaa.X Go.Proofs.YtienckflffiipaaV.PrintWords Go.Proofs.YtienckflffiipaaV.PrintLast Go.Proofs.YtienckflffiipaaV.PrintMore

theorem FnValueOf : laws_FnValueOf.Pure := by
  intro l ⟨hl, hw⟩
  refine ⟨20, ?_⟩
  by_cases hg : (l.length : Int) > 1048576
  · unfold laws_FnValueOf.f
    rw [if_pos hg]
  obtain ⟨s, hs, hB⟩ := open_ok hw
  obtain ⟨r, p, hr, _, _, h5⟩ := truth_ok hB 0 5 (by decide) (by decide) (by decide)
  have hd : spec_DrawValueOf.f 20 l = some r := by
    unfold spec_DrawValueOf.f
    rw [hs]
    simp only [Option.bind_some]
    rw [hr 20 (by decide)]
    rfl
  unfold laws_FnValueOf.f
  rw [if_neg hg, hd]
  simp only [Option.bind_some]
  rcases h5 with rfl | rfl | rfl | rfl | rfl <;> decide +kernel

end Go.Proofs.Ytienckflffiipaa.Pure
