/- Columns are columns: FnColumnsOk returns true for every list of bytes; no condition. -/
import Derived.Test.YtkgnfbockgcdpaaX20
import Derived.Test.YtkgnfbockgcdpaaX22
import Derived.Test.YtkgnfbockgcdpaaLCols
import Derived.Test.YtkgnfbockgcdpaaLDrawCols
import Derived.Test.YtkgnfbockgcdpaaLAlive
set_option linter.unusedVariables false
set_option linter.unusedSimpArgs false
namespace Go.Proofs.Ytkgnfbockgcdpaa.Pure
open Go.RowKit Go.Proofs.Ytkgnfbockgcdpaa.X Go.Proofs.YtkgnfbockgcdpaaV.PrintWords Go.Proofs.YtkgnfbockgcdpaaV.PrintLast Go.Proofs.YtkgnfbockgcdpaaV.PrintMore

theorem FnColumnsOk : laws_FnColumnsOk.Pure := by
  intro l hl
  obtain ⟨s, hs, hby⟩ := open_ok hl.2
  obtain ⟨c, p', hc, hz, _⟩ := draw_cols hby 0 3 (by decide) (by decide) (by decide)
  obtain ⟨K, hK⟩ : ∃ K : Nat, 1000 ≤ K := ⟨1000, Nat.le_refl _⟩
  refine ⟨K, ?_⟩
  unfold laws_FnColumnsOk.f
  by_cases h : (l.length : Int) > 1048576
  · rw [if_pos h]
  · rw [if_neg h, spec_DrawColumnsOk.f, hs, Option.bind_some]
    show ((((spec_l20Columns.f K s 0 3).bind _).bind _) : Option Bool) = _
    rw [hc _ (by omega), Option.bind_some, Option.bind_some]
    obtain ⟨b, hb, hb'⟩ := spec_cols c (by omega)
    obtain ⟨i, hi, hi'⟩ := impl_cols c
    have e : i = b := by
      rw [Bool.eq_iff_iff, hb', hi']
    rw [hi, Option.bind_some, hb _ (by omega), Option.bind_some]
    subst e
    rw [if_neg (by simp)]
    have fin : ∀ k j x, 30 ≤ k → laws_FnColumnsOk.j1 (k + 1) x i j false = some true := by
      intro k j x hk
      rw [laws_FnColumnsOk.j1, if_neg (by decide)]
      obtain ⟨n, hn, hn'⟩ := impl_cols []
      have en : n = true := hn'.2 ⟨fun x hx => absurd hx List.not_mem_nil, by decide⟩
      rw [hn, Option.bind_some, if_pos en, alive_eq]
      rfl
    cases i with
    | false =>
      obtain ⟨K, rfl⟩ : ∃ m, K = m + 1 + 1 := ⟨K - 2, by omega⟩
      rw [laws_FnColumnsOk.l0]
      by_cases h0 : (0 : Int) < (c.length : Int)
      · rw [if_pos h0]
        exact fin _ _ _ (by omega)
      · rw [if_neg h0]
        exact fin _ _ _ (by omega)
    | true =>
      have g := hi'.1 rfl
      refine go_all2 (fun k j => laws_FnColumnsOk.l0 k c true j) c.length 30 true ?_ ?_ K (by omega)
      · intro k j hk hj
        show laws_FnColumnsOk.l0 (k + 1 + 1) c true j = laws_FnColumnsOk.l0 k c true ((j + 1 : Nat) : Int)
        rw [laws_FnColumnsOk.l0, if_pos (by omega), laws_FnColumnsOk.j1]
        have g' : (∀ x ∈ c.take j, OkC x) ∧ (c.take j).length ≤ 4 := ⟨fun x hx => g.1 x (List.mem_of_mem_take hx), by rw [List.length_take]; omega⟩
        obtain ⟨n, hn, hn'⟩ := impl_cols (c.take j)
        have en : n = true := hn'.2 g'
        have ew : wrap64 ((j : Int) + 1) = ((j + 1 : Nat) : Int) := by rw [w64g (by omega)]; omega
        rw [ew, Int.toNat_natCast, if_pos rfl, Option.bind_some, if_pos (by omega), if_pos (by omega), Option.bind_some]
        rw [if_pos (by simp only [List.length_nil, List.length_take]; omega), List.nil_append, hn, Option.bind_some, if_pos en]
      · intro k hk
        show laws_FnColumnsOk.l0 (k + 1 + 1) c true c.length = _
        rw [laws_FnColumnsOk.l0, if_neg (by omega)]
        exact fin _ _ _ (by omega)

end Go.Proofs.Ytkgnfbockgcdpaa.Pure
