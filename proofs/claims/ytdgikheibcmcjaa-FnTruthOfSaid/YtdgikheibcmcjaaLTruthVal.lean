/- The truth of a value, told by the program and by the reference; lemmas. -/
import Derived.Test.YtdgikheibcmcjaaX16
import Derived.Test.YtdgikheibcmcjaaX17
import Derived.Test.YtdgikheibcmcjaaLVOkS
import Derived.Test.YtdgikheibcmcjaaVMore
set_option linter.unusedVariables false
set_option linter.unusedSimpArgs false
namespace Go.Proofs.Ytdgikheibcmcjaa.Pure
open Go.RowKit Go.Proofs.Ytdgikheibcmcjaa.X Go.Proofs.YtdgikheibcmcjaaV.PrintWords Go.Proofs.YtdgikheibcmcjaaV.PrintLast Go.Proofs.YtdgikheibcmcjaaV.PrintMore

def TOf (t n : Int) (s : ByteArray) : Int := if VOk t n s = true then (if t = 0 then 2 else if t = 3 then n else -1) else -1
theorem impl_truthOf (t n : Int) (s : ByteArray) : impl_TruthOf.f t n s = some (TOf t n s) := by
  unfold impl_TruthOf.f TOf
  rw [impl_ok]
  simp only [Option.bind_some]
  split
  · split
    · rfl
    · split <;> rfl
  · rfl
theorem spec_truthOf (t n : Int) (s : ByteArray) (hs : s.size ≤ maxLen) (k : Nat) (hk : s.size < k) : spec_TruthOf.f k t n s = some (TOf t n s) := by
  obtain ⟨m, rfl⟩ : ∃ m, k = m + 1 := ⟨k - 1, by omega⟩
  unfold spec_TruthOf.f TOf
  rw [spec_ok t n s hs _ hk]
  simp only [Option.bind_some, spec_TruthOf.j0]
  by_cases h1 : VOk t n s = true
  · rw [if_pos h1, if_pos h1]
    have := vok_kind h1
    by_cases t1 : t = 1
    · rw [if_pos t1, if_pos (by decide), if_neg (by omega), if_neg (by omega)]
    · rw [if_neg t1]
      by_cases t2 : t = 2
      · rw [beq_iff_eq.2 t2, if_pos (by decide), if_neg (by omega), if_neg (by omega)]
      · rw [beq_eq_false_iff_ne.2 t2, if_neg (by decide)]
        by_cases t0 : t = 0
        · rw [if_pos t0, if_pos t0]
        · rw [if_neg t0, if_neg t0, if_pos (by omega)]
  · rw [if_neg h1, if_neg h1, if_pos (by decide)]

end Go.Proofs.Ytdgikheibcmcjaa.Pure
