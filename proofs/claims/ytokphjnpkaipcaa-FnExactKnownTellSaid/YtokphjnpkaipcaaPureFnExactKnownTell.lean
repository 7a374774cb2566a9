/- The program's KnownTell returns what the reference's returns, for all arguments; no condition. -/
import Derived.Test.YtokphjnpkaipcaaX19
import Derived.Test.YtokphjnpkaipcaaX28
import Derived.Test.YtokphjnpkaipcaaX29
import Derived.Test.YtokphjnpkaipcaaLKOk
import Derived.Test.YtokphjnpkaipcaaLKTo
set_option linter.unusedVariables false
set_option linter.unusedSimpArgs false
namespace Go.Proofs.Ytokphjnpkaipcaa.Pure
open Go.RowKit Go.Proofs.Ytokphjnpkaipcaa.X Go.Proofs.YtokphjnpkaipcaaV.PrintWords Go.Proofs.YtokphjnpkaipcaaV.PrintLast Go.Proofs.YtokphjnpkaipcaaV.PrintMore

theorem eqValue_refl (t n : Int) (s : ByteArray) : laws_eqValue.f t n s t n s = some true := by
  unfold laws_eqValue.f
  rw [if_pos rfl, if_pos rfl, if_pos rfl]
theorem numOf_eq (n : Int) : impl_numOf.f n = some (if -9999 ≤ n ∧ n ≤ 9999 then (1, n, ⟨#[]⟩) else (0, 0, ⟨#[]⟩)) := by
  unfold impl_numOf.f
  rw [impl_ok, Option.bind_some, vok1 rfl]
  by_cases h : -9999 ≤ n ∧ n ≤ 9999
  · rw [if_pos h, if_pos (decide_eq_true ⟨rfl, h⟩)]
  · rw [if_neg h, if_neg (by simp; omega)]
theorem FnExactKnownTell : laws_FnExactKnownTell.Pure := by
  intro c a t n s t2 n2 s2 o hc _ _ _ hs _ _ hs2 _
  obtain ⟨K, hK⟩ : ∃ K, s.size + s2.size + 20 ≤ K := ⟨_, Nat.le_refl _⟩
  refine ⟨K, ?_⟩
  have both : ∃ q, impl_KnownTell.f K c a t n s t2 n2 s2 o = some q ∧ spec_KnownTell.f K c a t n s t2 n2 s2 o = some q := by
    obtain ⟨K, rfl⟩ : ∃ m, K = m + 1 := ⟨K - 1, by omega⟩
    unfold impl_KnownTell.f spec_KnownTell.f
    rw [impl_known _ _ _ _ _ _ _ _ _ (by omega), Option.bind_some, spec_known _ _ _ _ _ _ _ _ hs hs2 _ (by omega), Option.bind_some]
    by_cases h1 : KOk c a t n s t2 n2 s2 = true
    · rw [if_pos h1, if_pos h1]
      have hr : -9999 ≤ c ∧ c ≤ 9999 := by
        by_cases h0 : c = 0
        · omega
        · have := (kok_open h1 h0).1
          omega
      by_cases o1 : o = 1
      · rw [if_pos o1, if_pos o1, numOf_eq, Option.bind_some, if_pos hr]
        exact ⟨_, rfl, rfl⟩
      rw [if_neg o1, if_neg o1]
      by_cases o2 : o = 2
      · rw [if_pos o2, if_pos o2]
        by_cases ht : t = 1
        · rw [if_pos ht, if_pos ht, numOf_eq, Option.bind_some, l1In_eq, Option.bind_some]
          by_cases ha : -9999 ≤ a ∧ a ≤ 9999
          · rw [if_pos ha, spec_KnownTell.j0, if_pos (decide_eq_true ha)]
            exact ⟨_, rfl, rfl⟩
          · rw [if_neg ha, spec_KnownTell.j0, if_neg (fun h => ha (of_decide_eq_true h)), if_neg (by omega), if_neg (by omega)]
            exact ⟨_, rfl, rfl⟩
        · rw [if_neg ht, if_neg ht, spec_KnownTell.j0, if_neg Bool.false_ne_true, if_neg (by omega), if_neg (by omega)]
          exact ⟨_, rfl, rfl⟩
      rw [if_neg o2, if_neg o2, spec_KnownTell.j0, if_neg Bool.false_ne_true]
      by_cases o3 : o = 3
      · rw [if_pos o3]
        exact ⟨_, rfl, rfl⟩
      rw [if_neg o3]
      by_cases o4 : o = 4
      · rw [if_pos o4]
        exact ⟨_, rfl, rfl⟩
      · rw [if_neg o4]
        exact ⟨_, rfl, rfl⟩
    · rw [if_neg h1, if_neg h1]
      exact ⟨_, rfl, rfl⟩
  obtain ⟨q, hb1, hb2⟩ := both
  unfold laws_FnExactKnownTell.f
  obtain ⟨z, hz⟩ := szK_some c a t n s t2 n2 s2 1048576
  rw [hz, Option.bind_some]
  by_cases h0 : z < 0
  · rw [if_pos h0]
  rw [if_neg h0, toK_eq, Option.bind_some]
  simp only [Option.bind_some]
  rw [hb2]
  simp only [Option.bind_some]
  rw [hb1]
  simp only [Option.bind_some]
  rw [eqValue_refl]
  rfl

end Go.Proofs.Ytokphjnpkaipcaa.Pure
