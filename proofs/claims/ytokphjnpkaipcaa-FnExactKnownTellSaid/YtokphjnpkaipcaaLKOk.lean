/- What it is to be known, told by the program and by the reference; lemmas. -/
import Derived.Test.YtokphjnpkaipcaaX6
import Derived.Test.YtokphjnpkaipcaaX11
import Derived.Test.YtokphjnpkaipcaaX22
import Derived.Test.YtokphjnpkaipcaaLOrderS
import Derived.Test.YtokphjnpkaipcaaLOrd2
import Derived.Test.YtokphjnpkaipcaaVMore
set_option linter.unusedVariables false
set_option linter.unusedSimpArgs false
namespace Go.Proofs.Ytokphjnpkaipcaa.Pure
open Go.RowKit Go.Proofs.Ytokphjnpkaipcaa.X Go.Proofs.YtokphjnpkaipcaaV.PrintWords Go.Proofs.YtokphjnpkaipcaaV.PrintLast Go.Proofs.YtokphjnpkaipcaaV.PrintMore

def KZero (c a t n : Int) (s : ByteArray) (t2 n2 : Int) (s2 : ByteArray) : Bool := c == 0 && (a == 0 && ((t == 0 && (n == 0 && (s.toList == ([] : List UInt8)))) && ((t2 == 0 && (n2 == 0 && (s2.toList == ([] : List UInt8)))))))
def KAll (c a t n : Int) (s : ByteArray) (t2 n2 : Int) (s2 : ByteArray) : Prop := (1 ≤ c ∧ c ≤ 100) ∧ (wrap64 ((-9999) * c) ≤ a ∧ a ≤ wrap64 (9999 * c)) ∧ VOk t n s = true ∧ VOk t2 n2 s2 = true ∧ t = t2 ∧ t ≠ 0 ∧ VOrd t n s t2 n2 s2 ≤ 0 ∧ (t = 1 ∨ a = 0)
instance (c a t n : Int) (s : ByteArray) (t2 n2 : Int) (s2 : ByteArray) : Decidable (KAll c a t n s t2 n2 s2) := by unfold KAll; infer_instance
def KOk (c a t n : Int) (s : ByteArray) (t2 n2 : Int) (s2 : ByteArray) : Bool := if c = 0 then KZero c a t n s t2 n2 s2 else decide (KAll c a t n s t2 n2 s2)
theorem impl_known (c a t n : Int) (s : ByteArray) (t2 n2 : Int) (s2 : ByteArray) (k : Nat) (hk : 4 ≤ k) : impl_KnownOk.f k c a t n s t2 n2 s2 = some (KOk c a t n s t2 n2 s2) := by
  unfold impl_KnownOk.f KOk
  by_cases h0 : c = 0
  · rw [if_pos h0, if_pos h0]
    rfl
  rw [if_neg h0, if_neg h0, between_eq, Option.bind_some]
  by_cases h1 : 1 ≤ c ∧ c ≤ 100
  · rw [if_pos (decide_eq_true h1), between_eq, Option.bind_some]
    by_cases h2 : wrap64 ((-9999) * c) ≤ a ∧ a ≤ wrap64 (9999 * c)
    · rw [if_pos (decide_eq_true h2), impl_ok, Option.bind_some]
      by_cases h3 : VOk t n s = true
      · rw [if_pos h3, impl_ok, Option.bind_some]
        by_cases h4 : VOk t2 n2 s2 = true
        · rw [if_pos h4]
          by_cases h5 : t = t2
          · rw [if_pos h5]
            by_cases h6 : t = 0
            · rw [if_pos h6, decide_eq_false (fun h => h.2.2.2.2.2.1 h6)]
            · rw [if_neg h6, impl_order _ _ _ _ _ _ _ hk, Option.bind_some]
              by_cases h7 : VOrd t n s t2 n2 s2 ≤ 0
              · rw [if_pos h7]
                by_cases h8 : t = 1
                · rw [if_pos h8, decide_eq_true ⟨h1, h2, h3, h4, h5, h6, h7, Or.inl h8⟩]
                · rw [if_neg h8]
                  congr 1
                  rw [Bool.eq_iff_iff, beq_iff_eq, decide_eq_true_iff]
                  exact ⟨fun e => ⟨h1, h2, h3, h4, h5, h6, h7, Or.inr e⟩, fun e => e.2.2.2.2.2.2.2.resolve_left h8⟩
              · rw [if_neg h7, decide_eq_false (fun h => h7 h.2.2.2.2.2.2.1)]
          · rw [if_neg h5, decide_eq_false (fun h => h5 h.2.2.2.2.1)]
        · rw [if_neg h4, decide_eq_false (fun h => h4 h.2.2.2.1)]
      · rw [if_neg h3, decide_eq_false (fun h => h3 h.2.2.1)]
    · rw [if_neg (fun h => h2 (of_decide_eq_true h)), decide_eq_false (fun h => h2 h.2.1)]
  · rw [if_neg (fun h => h1 (of_decide_eq_true h)), decide_eq_false (fun h => h1 h.1)]
theorem spec_known (c a t n : Int) (s : ByteArray) (t2 n2 : Int) (s2 : ByteArray) (hs : s.size ≤ maxLen) (hs2 : s2.size ≤ maxLen) (k : Nat) (hk : s.size + s2.size + 5 ≤ k) :
    spec_KnownOk.f k c a t n s t2 n2 s2 = some (KOk c a t n s t2 n2 s2) := by
  obtain ⟨k, rfl⟩ : ∃ m, k = m + 1 := ⟨k - 1, by omega⟩
  have jt : spec_KnownOk.j0 (k + 1) true c a t n s t2 n2 s2 = some false := by rw [spec_KnownOk.j0, if_pos rfl]
  unfold spec_KnownOk.f KOk
  by_cases h0 : c = 0
  · rw [if_pos h0, if_pos h0]
    rfl
  rw [if_neg h0, if_neg h0, l1In_eq, Option.bind_some]
  by_cases h1 : 1 ≤ c ∧ c ≤ 100
  · rw [if_pos (decide_eq_true h1), spec_ok t n s hs _ (by omega), Option.bind_some]
    by_cases h3 : VOk t n s = true
    · rw [if_pos h3, spec_ok t2 n2 s2 hs2 _ (by omega), Option.bind_some]
      by_cases h4 : VOk t2 n2 s2 = true
      · rw [if_pos h4]
        by_cases h5 : t = t2
        · rw [if_pos h5]
          by_cases h6 : t = 0
          · rw [beq_iff_eq.2 h6, jt, decide_eq_false (fun h => h.2.2.2.2.2.1 h6)]
          · rw [beq_eq_false_iff_ne.2 h6, spec_KnownOk.j0, if_neg (by decide), spec_order _ _ _ _ _ _ _ hs hs2 (by omega) (by omega), if_pos ⟨h3, h4⟩, Option.bind_some]
            by_cases h7 : VOrd t n s t2 n2 s2 ≤ 0
            · rw [if_pos h7, l1In_eq, Option.bind_some]
              by_cases h2 : wrap64 ((-9999) * c) ≤ a ∧ a ≤ wrap64 (9999 * c)
              · rw [if_pos (decide_eq_true h2)]
                by_cases h8 : t = 1
                · rw [if_pos h8, decide_eq_true ⟨h1, h2, h3, h4, h5, h6, h7, Or.inl h8⟩]
                · rw [if_neg h8]
                  congr 1
                  rw [Bool.eq_iff_iff, beq_iff_eq, decide_eq_true_iff]
                  exact ⟨fun e => ⟨h1, h2, h3, h4, h5, h6, h7, Or.inr e⟩, fun e => e.2.2.2.2.2.2.2.resolve_left h8⟩
              · rw [if_neg (fun h => h2 (of_decide_eq_true h)), decide_eq_false (fun h => h2 h.2.1)]
            · rw [if_neg h7, decide_eq_false (fun h => h7 h.2.2.2.2.2.2.1)]
        · rw [if_neg h5, jt, decide_eq_false (fun h => h5 h.2.2.2.2.1)]
      · rw [if_neg h4, jt, decide_eq_false (fun h => h4 h.2.2.2.1)]
    · rw [if_neg h3, jt, decide_eq_false (fun h => h3 h.2.2.1)]
  · rw [if_neg (fun h => h1 (of_decide_eq_true h)), jt, decide_eq_false (fun h => h1 h.1)]
theorem kok_open {c a t n : Int} {s : ByteArray} {t2 n2 : Int} {s2 : ByteArray} (h : KOk c a t n s t2 n2 s2 = true) (h0 : ¬ c = 0) : KAll c a t n s t2 n2 s2 := by
  unfold KOk at h
  rw [if_neg h0] at h
  exact of_decide_eq_true h

end Go.Proofs.Ytokphjnpkaipcaa.Pure
