/- Whether a comparison of two values holds, told by the program and by the reference; lemmas. -/
import Derived.Test.YtdgikheibcmcjaaX29
import Derived.Test.YtdgikheibcmcjaaX30
import Derived.Test.YtdgikheibcmcjaaX31
import Derived.Test.YtdgikheibcmcjaaX32
import Derived.Test.YtdgikheibcmcjaaLOrderS
import Derived.Test.YtdgikheibcmcjaaVMore
set_option linter.unusedVariables false
set_option linter.unusedSimpArgs false
namespace Go.Proofs.Ytdgikheibcmcjaa.Pure
open Go.RowKit Go.Proofs.Ytdgikheibcmcjaa.X Go.Proofs.YtdgikheibcmcjaaV.PrintWords Go.Proofs.YtdgikheibcmcjaaV.PrintLast Go.Proofs.YtdgikheibcmcjaaV.PrintMore

def Cmp (kd t n : Int) (s : ByteArray) (t2 n2 : Int) (s2 : ByteArray) : Int :=
  if (1 ≤ kd ∧ kd ≤ 4) ∧ VOk t n s = true ∧ VOk t2 n2 s2 = true then
    (if t = 0 ∨ t2 = 0 then 2 else if t = t2 then
      (if (kd = 1 ∧ VOrd t n s t2 n2 s2 = 0) ∨ (kd = 2 ∧ VOrd t n s t2 n2 s2 ≠ 0) ∨ (kd = 3 ∧ VOrd t n s t2 n2 s2 < 0) ∨ (kd = 4 ∧ VOrd t n s t2 n2 s2 ≤ 0) then 1 else 0) else -1)
  else -1
theorem truthIf_eq (b : Bool) : impl_truthIf.f b = some (if b = true then 1 else 0) := by unfold impl_truthIf.f; split <;> rfl
theorem l2Bool_eq (b : Bool) : spec_l2Bool.f b = some (if b = true then 1 else 0) := by unfold spec_l2Bool.f; split <;> rfl
theorem impl_compare (kd t n : Int) (s : ByteArray) (t2 n2 : Int) (s2 : ByteArray) (k : Nat) (hk : 10 ≤ k) : impl_Compare.f k kd t n s t2 n2 s2 = some (Cmp kd t n s t2 n2 s2) := by
  obtain ⟨m, rfl⟩ : ∃ m, k = m + 2 := ⟨k - 2, by omega⟩
  have ho := impl_order t n s t2 n2 s2 m (by omega)
  unfold impl_Compare.f Cmp
  rw [between_eq, impl_ok, impl_ok]
  simp only [Option.bind_some, impl_Compare.j0]
  by_cases hb : 1 ≤ kd ∧ kd ≤ 4
  · rw [if_pos (decide_eq_true hb)]
    by_cases h1 : VOk t n s = true
    · rw [if_pos h1]
      by_cases h2 : VOk t2 n2 s2 = true
      · rw [if_pos (show (1 ≤ kd ∧ kd ≤ 4) ∧ VOk t n s = true ∧ VOk t2 n2 s2 = true from ⟨hb, h1, h2⟩), h2, if_neg (by decide)]
        simp only [impl_Compare.j1]
        by_cases t0 : t = 0
        · rw [if_pos t0, if_pos (by decide), if_pos (.inl t0)]
        · rw [if_neg t0]
          by_cases t20 : t2 = 0
          · rw [beq_iff_eq.2 t20, if_pos (by decide), if_pos (.inr t20)]
          · rw [beq_eq_false_iff_ne.2 t20, if_neg (by decide), if_neg (show ¬ (t = 0 ∨ t2 = 0) by omega)]
            by_cases ht : t = t2
            · rw [if_pos ht, if_pos ht, ho]
              simp only [Option.bind_some, truthIf_eq]
              generalize VOrd t n s t2 n2 s2 = z
              obtain rfl | rfl | rfl | rfl : kd = 1 ∨ kd = 2 ∨ kd = 3 ∨ kd = 4 := by omega
              · by_cases hz : z = 0 <;> simp [hz]
              · by_cases hz : z = 0 <;> simp [hz]
              · by_cases hz : z < 0 <;> simp [hz]
              · by_cases hz : z ≤ 0 <;> simp [hz]
            · rw [if_neg ht, if_neg ht]
      · rw [if_neg (show ¬ ((1 ≤ kd ∧ kd ≤ 4) ∧ VOk t n s = true ∧ VOk t2 n2 s2 = true) from fun h => h2 h.2.2)]
        rw [Bool.not_eq_true] at h2
        rw [h2, if_pos (by decide)]
    · rw [if_neg h1, if_neg (show ¬ ((1 ≤ kd ∧ kd ≤ 4) ∧ VOk t n s = true ∧ VOk t2 n2 s2 = true) from fun h => h1 h.2.1), if_pos (by decide)]
  · rw [decide_eq_false hb, if_neg (by decide), if_neg (show ¬ ((1 ≤ kd ∧ kd ≤ 4) ∧ VOk t n s = true ∧ VOk t2 n2 s2 = true) from fun h => hb h.1), if_pos (by decide)]
theorem spec_compare (kd t n : Int) (s : ByteArray) (t2 n2 : Int) (s2 : ByteArray) (hs : s.size ≤ maxLen) (hs2 : s2.size ≤ maxLen) (k : Nat) (hk : s.size + s2.size + 10 ≤ k) : spec_Compare.f k kd t n s t2 n2 s2 = some (Cmp kd t n s t2 n2 s2) := by
  obtain ⟨m, rfl⟩ : ∃ m, k = m + 2 := ⟨k - 2, by omega⟩
  have ho := spec_order t n s t2 n2 s2 m hs hs2 (by omega) (by omega)
  unfold spec_Compare.f Cmp
  rw [l1In_eq, spec_ok _ _ _ hs _ (by omega), spec_ok _ _ _ hs2 _ (by omega)]
  simp only [Option.bind_some, spec_Compare.j0]
  by_cases hb : 1 ≤ kd ∧ kd ≤ 4
  · rw [if_pos (decide_eq_true hb)]
    by_cases h1 : VOk t n s = true
    · rw [if_pos h1]
      by_cases h2 : VOk t2 n2 s2 = true
      · rw [if_pos ⟨h1, h2⟩] at ho
        rw [if_pos (show (1 ≤ kd ∧ kd ≤ 4) ∧ VOk t n s = true ∧ VOk t2 n2 s2 = true from ⟨hb, h1, h2⟩), h2, if_neg (by decide)]
        simp only [spec_Compare.j1]
        by_cases t0 : t = 0
        · rw [if_pos t0, if_pos (by decide), if_pos (.inl t0)]
        · rw [if_neg t0]
          by_cases t20 : t2 = 0
          · rw [beq_iff_eq.2 t20, if_pos (by decide), if_pos (.inr t20)]
          · rw [beq_eq_false_iff_ne.2 t20, if_neg (by decide), if_neg (show ¬ (t = 0 ∨ t2 = 0) by omega)]
            by_cases ht : t = t2
            · rw [if_pos ht, if_pos ht, ho]
              simp only [Option.bind_some, l2Bool_eq]
              generalize VOrd t n s t2 n2 s2 = z
              obtain rfl | rfl | rfl | rfl : kd = 1 ∨ kd = 2 ∨ kd = 3 ∨ kd = 4 := by omega
              · by_cases hz : z = 0 <;> simp [hz]
              · by_cases hz : z = 0 <;> simp [hz]
              · by_cases hz : z < 0 <;> simp [hz]
              · by_cases hz : z ≤ 0 <;> simp [hz]
            · rw [if_neg ht, if_neg ht]
      · rw [if_neg (show ¬ ((1 ≤ kd ∧ kd ≤ 4) ∧ VOk t n s = true ∧ VOk t2 n2 s2 = true) from fun h => h2 h.2.2)]
        rw [Bool.not_eq_true] at h2
        rw [h2, if_pos (by decide)]
    · rw [if_neg h1, if_neg (show ¬ ((1 ≤ kd ∧ kd ≤ 4) ∧ VOk t n s = true ∧ VOk t2 n2 s2 = true) from fun h => h1 h.2.1), if_pos (by decide)]
  · rw [decide_eq_false hb, if_neg (by decide), if_neg (show ¬ ((1 ≤ kd ∧ kd ≤ 4) ∧ VOk t n s = true ∧ VOk t2 n2 s2 = true) from fun h => hb h.1), if_pos (by decide)]

end Go.Proofs.Ytdgikheibcmcjaa.Pure
