/- There are three truths: FnTruthOk returns true for every list of bytes; no condition. -/
import Derived.Test.YtienckflffiipaaX9
import Derived.Test.YtienckflffiipaaX11
import Derived.Test.YtienckflffiipaaLPick
import Derived.Test.YtienckflffiipaaLOpen
import Derived.Test.YtienckflffiipaaLTruth
set_option linter.unusedVariables false
set_option linter.unusedSimpArgs false
namespace Go.Proofs.Ytienckflffiipaa.Pure
open Go.RowKit Go.Proofs.Ytienckflffiipaa.X Go.Proofs.YtienckflffiipaaV.PrintWords Go.Proofs.YtienckflffiipaaV.PrintLast Go.Proofs.YtienckflffiipaaV.PrintMore

theorem FnTruthOk : laws_FnTruthOk.Pure := by
  intro l ⟨hl, hw⟩
  refine ⟨20, ?_⟩
  by_cases hg : (l.length : Int) > 1048576
  · unfold laws_FnTruthOk.f
    rw [if_pos hg]
  obtain ⟨s, hs, hB⟩ := open_ok hw
  obtain ⟨r, p, hr, _, _, h5⟩ := truth_ok hB 0 3 (by decide) (by decide) (by decide)
  have hd : spec_DrawTruthOk.f 20 l = some r := by
    unfold spec_DrawTruthOk.f
    rw [hs]
    simp only [Option.bind_some]
    rw [hr 20 (by decide)]
    rfl
  unfold laws_FnTruthOk.f
  rw [if_neg hg, hd]
  simp only [Option.bind_some]
  rcases h5 with rfl | rfl | rfl | rfl | rfl <;> decide +kernel

end Go.Proofs.Ytienckflffiipaa.Pure
