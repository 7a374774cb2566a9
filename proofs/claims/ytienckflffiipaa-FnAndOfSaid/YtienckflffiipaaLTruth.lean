/- A drawn truth is one of -1, 0, 1, 2, 3; a lemma. -/
import Derived.Test.YtienckflffiipaaX9
import Derived.Test.YtienckflffiipaaLPick
import Derived.Test.YtienckflffiipaaVMore
set_option linter.unusedVariables false
set_option linter.unusedSimpArgs false
namespace Go.Proofs.Ytienckflffiipaa.Pure
open Go.RowKit Go.Proofs.Ytienckflffiipaa.X Go.Proofs.YtienckflffiipaaV.PrintWords Go.Proofs.YtienckflffiipaaV.PrintLast Go.Proofs.YtienckflffiipaaV.PrintMore

def Five (r : Int) : Prop := r = -1 ∨ r = 0 ∨ r = 1 ∨ r = 2 ∨ r = 3
theorem truth_ok {s : List Int} (hs : Bytes s) (p n : Int) (hp : 0 ≤ p) (hp2 : p ≤ 1000) (hn2 : n ≤ 1000) :
    ∃ r p', (∀ k, 1 ≤ k → spec_l20Truth.f k s p n = some (r, p')) ∧ 0 ≤ p' ∧ p' ≤ p + 2 ∧ Five r := by
  obtain ⟨b, p1, hb, h0, h1, _⟩ := odd_ok hs p n hp (by omega) (by omega)
  cases b with
  | true =>
    obtain ⟨r, hr, r0, r1, _⟩ := pick_ok hs p1 2 h0 (by omega) (by decide)
    have r1 := r1 (by decide)
    refine ⟨rd [-1, 3] r, p1 + 1, fun k hk => ?_, by omega, by omega, ?_⟩
    · unfold spec_l20Truth.f
      rw [hb k hk]
      simp only [Option.bind_some, if_true]
      rw [hr k hk]
      simp only [Option.bind_some]
      rw [if_pos r0, if_pos (by simpa using r1)]
    · obtain rfl | rfl : r = 0 ∨ r = 1 := by omega
      · exact .inl rfl
      · exact .inr (.inr (.inr (.inr rfl)))
  | false =>
    obtain ⟨r, hr, r0, r1, _⟩ := pick_ok hs p1 3 h0 (by omega) (by decide)
    have r1 := r1 (by decide)
    refine ⟨r, p1 + 1, fun k hk => ?_, by omega, by omega, ?_⟩
    · unfold spec_l20Truth.f
      rw [hb k hk]
      simp only [Option.bind_some, Bool.false_eq_true, if_false]
      rw [hr k hk]
      rfl
    · unfold Five; omega

end Go.Proofs.Ytienckflffiipaa.Pure
