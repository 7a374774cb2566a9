/- What is known, asked against a value: the program and the reference; lemmas. -/
import Derived.Test.YtokphjnpkaipcaaX11
import Derived.Test.YtokphjnpkaipcaaX22
import Derived.Test.YtokphjnpkaipcaaLKOk
import Derived.Test.YtokphjnpkaipcaaVMore
set_option linter.unusedVariables false
set_option linter.unusedSimpArgs false
namespace Go.Proofs.Ytokphjnpkaipcaa.Pure
open Go.RowKit Go.Proofs.Ytokphjnpkaipcaa.X Go.Proofs.YtokphjnpkaipcaaV.PrintWords Go.Proofs.YtokphjnpkaipcaaV.PrintLast Go.Proofs.YtokphjnpkaipcaaV.PrintMore

theorem impl_asks (c a t n : Int) (s : ByteArray) (t2 n2 : Int) (s2 : ByteArray) (o vt vn : Int) (vs : ByteArray) (k : Nat) (hk : 4 ≤ k) :
    impl_Known_asks.f k c a t n s t2 n2 s2 o vt vn vs = some (decide (KOk c a t n s t2 n2 s2 = true ∧ 0 < c ∧ (1 ≤ o ∧ o ≤ 4) ∧ VOk vt vn vs = true ∧ vt = t)) := by
  unfold impl_Known_asks.f
  rw [impl_known _ _ _ _ _ _ _ _ _ hk, Option.bind_some]
  by_cases h1 : KOk c a t n s t2 n2 s2 = true
  · rw [if_pos h1]
    by_cases h2 : c > 0
    · rw [if_pos h2, between_eq, Option.bind_some]
      by_cases h3 : 1 ≤ o ∧ o ≤ 4
      · rw [if_pos (decide_eq_true h3), impl_ok, Option.bind_some]
        by_cases h4 : VOk vt vn vs = true
        · rw [if_pos h4]
          congr 1
          rw [Bool.eq_iff_iff, beq_iff_eq, decide_eq_true_iff]
          exact ⟨fun e => ⟨h1, h2, h3, h4, e⟩, fun e => e.2.2.2.2⟩
        · rw [if_neg h4, decide_eq_false (fun h => h4 h.2.2.2.1)]
      · rw [if_neg (fun h => h3 (of_decide_eq_true h)), decide_eq_false (fun h => h3 h.2.2.1)]
    · rw [if_neg h2, decide_eq_false (fun h => h2 h.2.1)]
  · rw [if_neg h1, decide_eq_false (fun h => h1 h.1)]
theorem ne3 (t n : Int) (s : ByteArray) (t2 n2 : Int) (s2 : ByteArray) : (!(t == t2) || (!(n == n2) || (!(s.toList == s2.toList)))) = (VOrd t n s t2 n2 s2 != 0) := by
  rw [Bool.eq_iff_iff]
  simp only [Bool.or_eq_true, Bool.not_eq_true', beq_eq_false_iff_ne, bne_iff_ne, ne_eq, vord_zero]
  by_cases h1 : t = t2
  · by_cases h2 : n = n2 <;> simp [h1, h2]
  · simp [h1]
theorem eq3 (t n : Int) (s : ByteArray) (t2 n2 : Int) (s2 : ByteArray) : (t == t2 && (n == n2 && (s.toList == s2.toList))) = (VOrd t n s t2 n2 s2 == 0) := by
  rw [Bool.eq_iff_iff]
  simp only [Bool.and_eq_true, beq_iff_eq, vord_zero]

end Go.Proofs.Ytokphjnpkaipcaa.Pure
