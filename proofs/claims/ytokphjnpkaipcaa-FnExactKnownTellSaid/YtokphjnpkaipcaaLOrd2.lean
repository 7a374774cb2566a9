/- The order of two values turned round, and when two are equal; lemmas. -/
import Derived.Test.YtokphjnpkaipcaaX10
import Derived.Test.YtokphjnpkaipcaaLOrder
import Derived.Test.YtokphjnpkaipcaaVMore
set_option linter.unusedVariables false
set_option linter.unusedSimpArgs false
namespace Go.Proofs.Ytokphjnpkaipcaa.Pure
open Go.RowKit Go.Proofs.Ytokphjnpkaipcaa.X Go.Proofs.YtokphjnpkaipcaaV.PrintWords Go.Proofs.YtokphjnpkaipcaaV.PrintLast Go.Proofs.YtokphjnpkaipcaaV.PrintMore

theorem cs_self (a : ByteArray) : cs a a = 0 := by
  have h : Op.bytesLess a.toList a.toList = false := by
    have := long_greater a.toList a.toList
    rw [← this]
    simp
  unfold cs
  rw [h]
  rfl
theorem cs_neg (a b : ByteArray) : cs b a = - cs a b := by
  unfold cs
  have h1 := long_greater a.toList b.toList
  by_cases ha : Op.bytesLess a.toList b.toList = true
  · rw [if_pos ha]
    rw [ha] at h1
    have hb : ¬ Op.bytesLess b.toList a.toList = true := by rw [← h1]; simp
    rw [if_neg hb, if_pos ha]
    rfl
  · rw [if_neg ha]
    by_cases hb : Op.bytesLess b.toList a.toList = true
    · rw [if_pos hb, if_pos hb, if_neg ha]
    · rw [if_neg hb, if_neg hb, if_neg ha]
      rfl
theorem cs_zero {a b : ByteArray} (h : cs a b = 0) : a.toList = b.toList := by
  unfold cs at h
  by_cases ha : Op.bytesLess a.toList b.toList = true
  · rw [if_pos ha] at h
    cases h
  · rw [if_neg ha] at h
    by_cases hb : Op.bytesLess b.toList a.toList = true
    · rw [if_pos hb] at h
      cases h
    · have h1 := long_greater a.toList b.toList
      rw [Bool.not_eq_true] at ha hb
      rw [ha, hb] at h1
      simpa using h1
theorem vord_neg (t n : Int) (s : ByteArray) (t2 n2 : Int) (s2 : ByteArray) : VOrd t2 n2 s2 t n s = - VOrd t n s t2 n2 s2 := by
  unfold VOrd
  rw [ci_neg t t2, ci_neg n n2, cs_neg s s2]
  by_cases h : ci t t2 = 0
  · rw [if_pos h, if_pos (by omega)]
    by_cases h' : ci n n2 = 0
    · rw [if_pos h', if_pos (by omega)]
    · rw [if_neg h', if_neg (by omega)]
  · rw [if_neg h, if_neg (by omega)]
theorem vord_zero {t n : Int} {s : ByteArray} {t2 n2 : Int} {s2 : ByteArray} : VOrd t n s t2 n2 s2 = 0 ↔ t = t2 ∧ n = n2 ∧ s.toList = s2.toList := by
  constructor
  · unfold VOrd
    intro h
    by_cases h1 : ci t t2 = 0
    · rw [if_pos h1] at h
      by_cases h2 : ci n n2 = 0
      · rw [if_pos h2] at h
        exact ⟨ci_zero.1 h1, ci_zero.1 h2, cs_zero h⟩
      · rw [if_neg h2] at h
        exact absurd h h2
    · rw [if_neg h1] at h
      exact absurd h h1
  · rintro ⟨rfl, rfl, h⟩
    unfold VOrd
    rw [ci_self, ci_self, if_pos rfl, if_pos rfl]
    unfold cs
    rw [h]
    exact cs_self s2

end Go.Proofs.Ytokphjnpkaipcaa.Pure
