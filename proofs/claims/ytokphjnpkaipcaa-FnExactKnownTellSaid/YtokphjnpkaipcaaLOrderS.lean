/- The reference's order of values is the same; lemmas. -/
import Derived.Test.YtokphjnpkaipcaaX4
import Derived.Test.YtokphjnpkaipcaaX5
import Derived.Test.YtokphjnpkaipcaaLOrder
import Derived.Test.YtokphjnpkaipcaaLVOkS
import Derived.Test.YtokphjnpkaipcaaVMore
set_option linter.unusedVariables false
set_option linter.unusedSimpArgs false
namespace Go.Proofs.Ytokphjnpkaipcaa.Pure
open Go.RowKit Go.Proofs.Ytokphjnpkaipcaa.X Go.Proofs.YtokphjnpkaipcaaV.PrintWords Go.Proofs.YtokphjnpkaipcaaV.PrintLast Go.Proofs.YtokphjnpkaipcaaV.PrintMore

theorem l1Cmp_eq (a b : ByteArray) : spec_l1Cmp.f a b = some (cs a b) := by
  unfold spec_l1Cmp.f cs
  split
  · rfl
  · split <;> rfl
theorem less_eq (a b : Int) (h : a ≠ b) : ((spec_l1Less.f b a).bind fun x => some (wrap64 (wrap64 (2 * x) - 1))) = some (ci a b) := by
  unfold spec_l1Less.f ci
  by_cases h1 : b < a
  · rw [if_pos h1, if_neg (by omega), if_pos (by omega)]
    decide +kernel
  · rw [if_neg h1, if_pos (by omega)]
    decide +kernel
theorem spec_order (t n : Int) (s : ByteArray) (t2 n2 : Int) (s2 : ByteArray) (k : Nat) (hs : s.size ≤ maxLen) (hs2 : s2.size ≤ maxLen) (hk : s.size < k) (hk2 : s2.size < k) :
    spec_ValueOrder.f k t n s t2 n2 s2 = some (if VOk t n s = true ∧ VOk t2 n2 s2 = true then VOrd t n s t2 n2 s2 else 0) := by
  obtain ⟨m, rfl⟩ : ∃ m, k = m + 1 := ⟨k - 1, by omega⟩
  unfold spec_ValueOrder.f
  rw [spec_ok t n s hs _ hk]
  simp only [Option.bind_some]
  by_cases h1 : VOk t n s = true
  · rw [if_pos h1, spec_ok t2 n2 s2 hs2 _ hk2]
    simp only [Option.bind_some, spec_ValueOrder.j0]
    by_cases h2 : VOk t2 n2 s2 = true
    · rw [if_pos (show VOk t n s = true ∧ VOk t2 n2 s2 = true from ⟨h1, h2⟩), h2, if_neg (by decide)]
      unfold VOrd
      by_cases ht : t = t2
      · rw [if_pos ht, if_pos (ci_zero.2 ht)]
        by_cases hn : n = n2
        · rw [if_pos hn, if_pos (ci_zero.2 hn), l1Cmp_eq]
          rfl
        · rw [if_neg hn, if_neg (fun h => hn (ci_zero.1 h))]
          exact less_eq n n2 hn
      · rw [if_neg ht, if_neg (fun h => ht (ci_zero.1 h))]
        exact less_eq t t2 ht
    · rw [if_neg (show ¬ (VOk t n s = true ∧ VOk t2 n2 s2 = true) from fun h => h2 h.2)]
      rw [Bool.not_eq_true] at h2
      rw [h2, if_pos (by decide)]
  · rw [if_neg h1, if_neg (show ¬ (VOk t n s = true ∧ VOk t2 n2 s2 = true) from fun h => h1 h.1)]
    simp only [spec_ValueOrder.j0]
    rw [if_pos (by decide)]

end Go.Proofs.Ytokphjnpkaipcaa.Pure
