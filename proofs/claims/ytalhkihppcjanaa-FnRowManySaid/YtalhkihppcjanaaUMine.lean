/- Further words for this session's prints: searching a slice by a function value, loads of whole elements, clips; plain lemmas. -/
import Derived.Test.YtalhkihppcjanaaUMore
import Derived.Laws.Cells
set_option linter.unusedVariables false
set_option linter.unusedSimpArgs false
namespace Go.Proofs.YtalhkihppcjanaaV.PrintWords
open Go.RowKit
/-- A slice of one's own, clipped. -/
theorem Kd.R_clip {α : Type} {d : Kd α} {e : Nat} {w : World} {base : Nat} {ok : Nat → Prop} {A : Option Addr} {n c : Nat} {xs : List α} (h : d.R e w base ok (.slice A n c) xs) : d.R e w base ok (.slice A n n) xs := by
  obtain ⟨h0, inner, ho, hr⟩ := h
  have hb : (Value.slice A n n).ownBlock = (Value.slice A n c).ownBlock := by cases A <;> rfl
  refine ⟨fun k hk => h0 k (by rw [← hb]; exact hk), inner, ⟨ho.1, ?_⟩, hr.imp_ (fun _ _ hp => d.M_mono (fun k hk => ⟨hk.1, by rw [hb]; exact hk.2⟩) hp)⟩
  rcases ho.2 with ⟨hv, hn⟩ | ⟨g, cap, cur, hv, hbg, hg, hnc, hcm, hcs, ht⟩
  · left
    injection hv with h1 h2 h3
    exact ⟨by rw [h1, h2], hn⟩
  · right
    injection hv with h1 h2 h3
    refine ⟨g, n, cur, by rw [h1, ← h2], hbg, hg, by omega, by omega, ?_, ht⟩
    exact Nat.le_trans (Nat.mul_le_mul_right _ (by omega)) hcs
end Go.Proofs.YtalhkihppcjanaaV.PrintWords
