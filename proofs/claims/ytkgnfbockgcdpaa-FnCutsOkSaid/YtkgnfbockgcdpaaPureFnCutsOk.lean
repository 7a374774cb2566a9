/- Parts are cut in order: FnCutsOk returns true for every list of bytes; no condition. -/
import Derived.Test.YtkgnfbockgcdpaaX24
import Derived.Test.YtkgnfbockgcdpaaLRise
import Derived.Test.YtkgnfbockgcdpaaLDrawCuts
import Derived.Test.YtkgnfbockgcdpaaLAlive
set_option linter.unusedVariables false
set_option linter.unusedSimpArgs false
namespace Go.Proofs.Ytkgnfbockgcdpaa.Pure
open Go.RowKit Go.Proofs.Ytkgnfbockgcdpaa.X Go.Proofs.YtkgnfbockgcdpaaV.PrintWords Go.Proofs.YtkgnfbockgcdpaaV.PrintLast Go.Proofs.YtkgnfbockgcdpaaV.PrintMore

theorem FnCutsOk : laws_FnCutsOk.Pure := by
  intro l hl
  obtain ⟨c, hc, hz⟩ := draw_cuts hl.2
  obtain ⟨K, hK⟩ : ∃ K : Nat, 1000 ≤ K := ⟨1000, Nat.le_refl _⟩
  refine ⟨K, ?_⟩
  unfold laws_FnCutsOk.f
  by_cases h : (l.length : Int) > 1048576
  · rw [if_pos h]
  · rw [if_neg h, hc _ (by omega)]
    simp only [Option.bind_some]
    obtain ⟨b, hb, hb'⟩ := spec_cuts c (by omega)
    obtain ⟨i, hi, hi'⟩ := impl_cuts c (by omega)
    have e : i = b := by
      rw [Bool.eq_iff_iff, hb', hi']
    rw [hb _ (by omega), hi _ (by omega)]
    simp only [Option.bind_some]
    subst e
    rw [if_neg (by simp)]
    have fin : ∀ k j x, 30 ≤ k → laws_FnCutsOk.j1 (k + 1) x i j false = some true := by
      intro k j x hk
      simp only [laws_FnCutsOk.j1]
      rw [if_neg (by decide)]
      obtain ⟨n, hn, hn'⟩ := impl_cuts [] (by decide)
      have en : n = true := hn'.2 ⟨fun j hj => absurd hj (Nat.not_lt_zero _), by decide⟩
      rw [hn _ (by simp; omega)]
      simp only [Option.bind_some]
      rw [if_pos en, alive_eq]
      rfl
    cases i with
    | false =>
      obtain ⟨K, rfl⟩ : ∃ m, K = m + 1 + 1 := ⟨K - 2, by omega⟩
      simp only [laws_FnCutsOk.l0]
      by_cases h0 : (0 : Int) < (c.length : Int)
      · rw [if_pos h0]
        exact fin _ _ _ (by omega)
      · rw [if_neg h0]
        exact fin _ _ _ (by omega)
    | true =>
      have g := hi'.1 rfl
      refine go_all2 (fun k j => laws_FnCutsOk.l0 k c true j) c.length 30 true ?_ ?_ K (by omega)
      · intro k j hk hj
        show laws_FnCutsOk.l0 (k + 1 + 1) c true j = laws_FnCutsOk.l0 k c true ((j + 1 : Nat) : Int)
        simp only [laws_FnCutsOk.l0]
        rw [if_pos (by omega)]
        rw [laws_FnCutsOk.j1]
        have g' := cuts_less g j (j + 1) (by omega)
        obtain ⟨n, hn, hn'⟩ := impl_cuts (c.take j ++ c.drop (j + 1)) (by simp only [List.length_append, List.length_drop, List.length_take]; omega)
        have en : n = true := hn'.2 g'
        have ew : wrap64 ((j : Int) + 1) = ((j + 1 : Nat) : Int) := by rw [w64g (by omega)]; omega
        rw [ew, Int.toNat_natCast, Int.toNat_natCast, if_pos rfl, Option.bind_some, if_pos (by omega), if_pos (by omega), Option.bind_some]
        rw [if_pos (by simp only [List.length_nil, List.length_take]; omega), Option.bind_some, if_pos (by omega), if_pos (by omega), Option.bind_some]
        rw [if_pos (by simp only [List.length_append, List.length_nil, List.length_drop, List.length_take]; omega), List.nil_append, hn k (by simp only [List.length_append, List.length_drop, List.length_take]; omega), Option.bind_some, if_pos en]
      · intro k hk
        show laws_FnCutsOk.l0 (k + 1 + 1) c true c.length = _
        simp only [laws_FnCutsOk.l0]
        rw [if_neg (by omega)]
        exact fin _ _ _ (by omega)

end Go.Proofs.Ytkgnfbockgcdpaa.Pure
