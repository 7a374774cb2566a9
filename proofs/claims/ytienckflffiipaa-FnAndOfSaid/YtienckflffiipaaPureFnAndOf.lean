/- Turned round by not, both is either: FnAndOf returns true for every list of bytes; no condition. -/
import Derived.Test.YtienckflffiipaaX14
import Derived.Test.YtienckflffiipaaX15
import Derived.Test.YtienckflffiipaaLPick
import Derived.Test.YtienckflffiipaaLOpen
import Derived.Test.YtienckflffiipaaLTruth
set_option linter.unusedVariables false
set_option linter.unusedSimpArgs false
namespace Go.Proofs.Ytienckflffiipaa.Pure
open Go.RowKit Go.Proofs.Ytienckflffiipaa.X Go.Proofs.YtienckflffiipaaV.PrintWords Go.Proofs.YtienckflffiipaaV.PrintLast Go.Proofs.YtienckflffiipaaV.PrintMore

theorem FnAndOf : laws_FnAndOf.Pure := by
  intro l ⟨hl, hw⟩
  refine ⟨20, ?_⟩
  by_cases hg : (l.length : Int) > 1048576
  · unfold laws_FnAndOf.f
    rw [if_pos hg]
  obtain ⟨s, hs, hB⟩ := open_ok hw
  obtain ⟨r, p, hr, p0, p1, h5⟩ := truth_ok hB 0 9 (by decide) (by decide) (by decide)
  obtain ⟨r2, p2, hr2, _, _, h52⟩ := truth_ok hB p 9 p0 (by omega) (by decide)
  have hd : spec_DrawAndOf.f 20 l = some (r, r2) := by
    unfold spec_DrawAndOf.f
    rw [hs]
    simp only [Option.bind_some]
    rw [hr 20 (by decide)]
    simp only [Option.bind_some]
    rw [hr2 20 (by decide)]
    rfl
  unfold laws_FnAndOf.f
  rw [if_neg hg, hd]
  simp only [Option.bind_some]
  rcases h5 with rfl | rfl | rfl | rfl | rfl <;> rcases h52 with rfl | rfl | rfl | rfl | rfl <;> decide +kernel

end Go.Proofs.Ytienckflffiipaa.Pure
