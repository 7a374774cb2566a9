/- The program's MayHold returns what the reference's returns, for all arguments; no condition. -/
import Derived.Test.YtokphjnpkaipcaaX21
import Derived.Test.YtokphjnpkaipcaaX23
import Derived.Test.YtokphjnpkaipcaaX24
import Derived.Test.YtokphjnpkaipcaaLAsks
import Derived.Test.YtokphjnpkaipcaaLKTo
set_option linter.unusedVariables false
set_option linter.unusedSimpArgs false
namespace Go.Proofs.Ytokphjnpkaipcaa.Pure
open Go.RowKit Go.Proofs.Ytokphjnpkaipcaa.X Go.Proofs.YtokphjnpkaipcaaV.PrintWords Go.Proofs.YtokphjnpkaipcaaV.PrintLast Go.Proofs.YtokphjnpkaipcaaV.PrintMore

theorem FnExactMayHold : laws_FnExactMayHold.Pure := by
  intro c a t n s t2 n2 s2 o vt vn vs _ _ _ _ hs _ _ hs2 _ _ _ hvs
  obtain ⟨K, hK⟩ : ∃ K, s.size + s2.size + vs.size + 20 ≤ K := ⟨_, Nat.le_refl _⟩
  refine ⟨K, ?_⟩
  have hspec : ∃ b, impl_MayHold.f K c a t n s t2 n2 s2 o vt vn vs = some b ∧ spec_MayHold.f K c a t n s t2 n2 s2 o vt vn vs = some b := by
    obtain ⟨K, rfl⟩ : ∃ m, K = m + 1 := ⟨K - 1, by omega⟩
    have jt : spec_MayHold.j0 (K + 1) o true c a t n s t2 n2 s2 vt vn vs = some false := by rw [spec_MayHold.j0, if_pos rfl]
    unfold impl_MayHold.f spec_MayHold.f
    rw [impl_asks _ _ _ _ _ _ _ _ _ _ _ _ _ (by omega), Option.bind_some, spec_known _ _ _ _ _ _ _ _ hs hs2 _ (by omega), Option.bind_some]
    by_cases h1 : KOk c a t n s t2 n2 s2 = true
    · rw [if_pos h1]
      by_cases h2 : c = 0
      · rw [if_pos h2, jt, if_neg (fun h => by have := of_decide_eq_true h; omega)]
        exact ⟨_, rfl, rfl⟩
      · have hall := kok_open h1 h2
        rw [if_neg h2, spec_ok _ _ _ hvs _ (by omega), Option.bind_some]
        by_cases h3 : VOk vt vn vs = true
        · rw [if_pos h3]
          by_cases h4 : vt = t
          · rw [show (vt != t) = false by rw [h4]; simp, spec_MayHold.j0, if_neg Bool.false_ne_true]
            rw [spec_order _ _ _ _ _ _ _ hs hvs (by omega) (by omega), if_pos (show VOk t n s = true ∧ VOk vt vn vs = true from ⟨hall.2.2.1, h3⟩), Option.bind_some, Option.bind_some, Option.bind_some]
            rw [spec_order _ _ _ _ _ _ _ hvs hs2 (by omega) (by omega), if_pos (show VOk vt vn vs = true ∧ VOk t2 n2 s2 = true from ⟨h3, hall.2.2.2.1⟩), Option.bind_some, ne3, ne3, vord_neg t2 n2 s2 vt vn vs]
            rw [impl_order _ _ _ _ _ _ _ (by omega), impl_order _ _ _ _ _ _ _ (by omega), Option.bind_some, Option.bind_some]
            generalize VOrd t n s vt vn vs = x
            generalize VOrd t2 n2 s2 vt vn vs = y
            by_cases o1 : o = 1
            · rw [if_pos o1, if_pos (decide_eq_true ⟨h1, by have := hall.1; omega, by omega, h3, h4⟩), if_pos o1]
              by_cases hx : x ≤ 0
              · rw [if_pos hx, if_pos hx]
                refine ⟨_, rfl, ?_⟩
                congr 1
                rw [Bool.eq_iff_iff, decide_eq_true_iff, decide_eq_true_iff]
                omega
              · rw [if_neg hx, if_neg hx]
                exact ⟨_, rfl, rfl⟩
            rw [if_neg o1]
            by_cases o2 : o = 2
            · rw [if_pos o2, if_pos (decide_eq_true ⟨h1, by have := hall.1; omega, by omega, h3, h4⟩), if_neg o1, if_pos o2]
              by_cases hx : x = 0
              · rw [if_pos hx, if_neg (by simp [hx])]
                exact ⟨_, rfl, rfl⟩
              · rw [if_neg hx, if_pos (by simp [hx])]
                exact ⟨_, rfl, rfl⟩
            rw [if_neg o2]
            by_cases o3 : o = 3
            · rw [if_pos o3, if_pos (decide_eq_true ⟨h1, by have := hall.1; omega, by omega, h3, h4⟩), if_neg o1, if_neg o2, if_pos o3]
              exact ⟨_, rfl, rfl⟩
            rw [if_neg o3]
            by_cases o4 : o = 4
            · rw [if_pos o4, if_pos (decide_eq_true ⟨h1, by have := hall.1; omega, by omega, h3, h4⟩), if_neg o1, if_neg o2, if_neg o3]
              exact ⟨_, rfl, rfl⟩
            · rw [if_neg o4, if_neg (fun h => by have := (of_decide_eq_true h).2.2.1; omega), if_neg o1, if_neg o2, if_neg o3]
              exact ⟨_, rfl, rfl⟩
          · rw [show (vt != t) = true from bne_iff_ne.2 h4, jt, if_neg (fun h => h4 (of_decide_eq_true h).2.2.2.2)]
            exact ⟨_, rfl, rfl⟩
        · rw [if_neg h3, jt, if_neg (fun h => h3 (of_decide_eq_true h).2.2.2.1)]
          exact ⟨_, rfl, rfl⟩
    · rw [if_neg h1, jt, if_neg (fun h => h1 (of_decide_eq_true h).1)]
      exact ⟨_, rfl, rfl⟩
  obtain ⟨b, hb1, hb2⟩ := hspec
  unfold laws_FnExactMayHold.f
  obtain ⟨z, hz⟩ := szK_some c a t n s t2 n2 s2 1048576
  rw [hz, Option.bind_some]
  by_cases h0 : z < 0
  · rw [if_pos h0]
  rw [if_neg h0]
  obtain ⟨z2, hz2⟩ := sz_some vt vn vs z
  rw [hz2, Option.bind_some]
  by_cases h02 : z2 < 0
  · rw [if_pos h02]
  rw [if_neg h02, toK_eq, Option.bind_some, to_eq, Option.bind_some]
  simp only [Option.bind_some]
  rw [hb1, hb2]
  simp

end Go.Proofs.Ytokphjnpkaipcaa.Pure
