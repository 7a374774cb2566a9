/- Columns are drawn, at most ten of them, at every list of bytes; a lemma. -/
import Derived.Test.YtkgnfbockgcdpaaX19
import Derived.Test.YtkgnfbockgcdpaaLOpen
import Derived.Test.YtkgnfbockgcdpaaLGen
import Derived.Test.YtkgnfbockgcdpaaVMore
set_option linter.unusedVariables false
set_option linter.unusedSimpArgs false
namespace Go.Proofs.Ytkgnfbockgcdpaa.Pure
open Go.RowKit Go.Proofs.Ytkgnfbockgcdpaa.X Go.Proofs.YtkgnfbockgcdpaaV.PrintWords Go.Proofs.YtkgnfbockgcdpaaV.PrintLast Go.Proofs.YtkgnfbockgcdpaaV.PrintMore

theorem draw_cols_loop {s : List Int} (hs : Bytes s) (n : Int) (hn : n ≤ 1000) : ∀ (d : Nat) (l : List S48) (p : Int), 0 ≤ p → p + 2 * d ≤ 90000 → d ≤ 6 → l.length + d ≤ 6 →
    ∃ r p', (∀ k, d + 3 ≤ k → spec_l20Columns.l0 k n l (d : Int) s p = some (r, p')) ∧ r.length ≤ 10 ∧ 0 ≤ p' ∧ p' ≤ p + 2 * d + 2 := by
  intro d
  induction d with
  | zero =>
    intro l p hp hp2 _ hz
    obtain ⟨b, p1, hb, h0, h1, _⟩ := odd_ok hs p n hp (by omega) (by omega)
    cases b with
    | false =>
      refine ⟨l, p1, fun k hk => ?_, by omega, by omega, by omega⟩
      obtain ⟨k, rfl⟩ : ∃ m, k = m + 1 := ⟨k - 1, by omega⟩
      rw [spec_l20Columns.l0, if_neg (by decide), hb k (by omega), Option.bind_some]
      rfl
    | true =>
      obtain ⟨c, hc, _⟩ := pick_ok hs p1 6 h0 (by omega) (by decide)
      refine ⟨l ++ [⟨wrap64 (c - 1), false⟩, ⟨1, false⟩, ⟨1, false⟩], p1 + 1, fun k hk => ?_, by rw [List.length_append]; simp; omega, by omega, by omega⟩
      obtain ⟨k, rfl⟩ : ∃ m, k = m + 1 := ⟨k - 1, by omega⟩
      rw [spec_l20Columns.l0, if_neg (by decide), hb k (by omega), Option.bind_some, if_pos rfl, hc k (by omega), Option.bind_some, Option.bind_some, if_pos (by simp only [List.length_cons, List.length_nil]; omega)]
  | succ d ih =>
    intro l p hp hp2 hd hz
    obtain ⟨c, hc, c0, c1, _⟩ := pick_ok hs p 4 hp (by omega) (by decide)
    have c1 := c1 (by decide)
    obtain ⟨c2, hc2, _⟩ := pick_ok hs (p + 1) 3 (by omega) (by omega) (by decide)
    obtain ⟨r, p', hr, h2, h3, h4⟩ := ih (l ++ [⟨rd [1, 1, 2, 3] c, decide (c2 > 0)⟩]) (p + 1 + 1) (by omega) (by omega) (by omega) (by rw [List.length_append]; simp; omega)
    refine ⟨r, p', fun k hk => ?_, h2, h3, by omega⟩
    obtain ⟨k, rfl⟩ : ∃ m, k = m + 1 := ⟨k - 1, by omega⟩
    rw [spec_l20Columns.l0, if_pos (by omega), Option.bind_some, hc k (by omega), Option.bind_some, if_pos c0, if_pos (show c < (([1, 1, 2, 3] : List Int).length : Int) from c1), hc2 k (by omega), Option.bind_some, if_pos (by omega), show wrap64 (((d + 1 : Nat) : Int) - 1) = (d : Int) by rw [w64g (by omega)]; omega]
    exact hr k (by omega)
theorem draw_cols {s : List Int} (hb : Bytes s) (p n : Int) (hp : 0 ≤ p) (hp2 : p ≤ 80000) (hn : n ≤ 1000) : ∃ r p', (∀ k, 20 ≤ k → spec_l20Columns.f k s p n = some (r, p')) ∧ r.length ≤ 10 ∧ 0 ≤ p' ∧ p' ≤ p + 20 := by
  obtain ⟨c, hc, c0, c1, _⟩ := pick_ok hb p 3 hp (by omega) (by decide)
  have c1 := c1 (by decide)
  obtain ⟨e, rfl⟩ := Int.eq_ofNat_of_zero_le c0
  obtain ⟨r, p', hr, h2, h3, h4⟩ := draw_cols_loop hb n hn (e + 1) [] (p + 1) (by omega) (by omega) (by omega) (by simp; omega)
  refine ⟨r, p', fun k hk => ?_, h2, h3, by omega⟩
  unfold spec_l20Columns.f
  rw [hc k (by omega), Option.bind_some, show wrap64 (1 + (e : Int)) = ((e + 1 : Nat) : Int) by rw [w64g (by omega)]; omega]
  exact hr k (by omega)

end Go.Proofs.Ytkgnfbockgcdpaa.Pure
