/- Cuts are drawn, at most twenty of them, at every list of bytes; a lemma. -/
import Derived.Test.YtkgnfbockgcdpaaX23
import Derived.Test.YtkgnfbockgcdpaaLOpen
import Derived.Test.YtkgnfbockgcdpaaLGen
import Derived.Test.YtkgnfbockgcdpaaVMore
set_option linter.unusedVariables false
set_option linter.unusedSimpArgs false
namespace Go.Proofs.Ytkgnfbockgcdpaa.Pure
open Go.RowKit Go.Proofs.Ytkgnfbockgcdpaa.X Go.Proofs.YtkgnfbockgcdpaaV.PrintWords Go.Proofs.YtkgnfbockgcdpaaV.PrintLast Go.Proofs.YtkgnfbockgcdpaaV.PrintMore

theorem draw_cuts_loop {s : List Int} (hs : Bytes s) : ∀ (d : Nat) (l : List Int) (v p : Int), 0 ≤ p → p + d ≤ 90000 → d ≤ 10 → l.length + d ≤ 10 →
    ∃ r p', (∀ k, d + 3 ≤ k → spec_l20Cuts.l0 k 2 l v (d : Int) s p = some (r, p')) ∧ r.length ≤ 20 := by
  intro d
  induction d with
  | zero =>
    intro l v p hp hp2 _ hz
    obtain ⟨b, p1, hb, h0, h1, _⟩ := odd_ok hs p 2 hp (by omega) (by omega)
    cases b with
    | false =>
      refine ⟨l, p1, fun k hk => ?_, by omega⟩
      obtain ⟨k, rfl⟩ : ∃ m, k = m + 1 := ⟨k - 1, by omega⟩
      simp only [spec_l20Cuts.l0]
      rw [if_neg (by decide), hb k (by omega)]
      rfl
    | true =>
      obtain ⟨c, hc, c0, c1, _⟩ := pick_ok hs p1 3 h0 (by omega) (by decide)
      by_cases e0 : c = 0
      · refine ⟨l ++ [wrap64 (v - 3)], p1 + 1, fun k hk => ?_, by rw [List.length_append]; simp; omega⟩
        obtain ⟨k, rfl⟩ : ∃ m, k = m + 1 := ⟨k - 1, by omega⟩
        simp only [spec_l20Cuts.l0]
        rw [if_neg (by decide), hb k (by omega)]
        simp only [Option.bind_some, if_true]
        rw [hc k (by omega)]
        simp only [Option.bind_some]
        rw [if_pos e0, if_pos (by omega)]
      by_cases e1 : c = 1
      · refine ⟨l ++ [99999999], p1 + 1, fun k hk => ?_, by rw [List.length_append]; simp; omega⟩
        obtain ⟨k, rfl⟩ : ∃ m, k = m + 1 := ⟨k - 1, by omega⟩
        simp only [spec_l20Cuts.l0]
        rw [if_neg (by decide), hb k (by omega)]
        simp only [Option.bind_some, if_true]
        rw [hc k (by omega)]
        simp only [Option.bind_some]
        rw [if_neg e0, if_pos e1, if_pos (by omega)]
      · refine ⟨l ++ [v, wrap64 (v + 1), wrap64 (v + 2), wrap64 (v + 3), wrap64 (v + 4)], p1 + 1, fun k hk => ?_, by rw [List.length_append]; simp; omega⟩
        obtain ⟨k, rfl⟩ : ∃ m, k = m + 1 := ⟨k - 1, by omega⟩
        simp only [spec_l20Cuts.l0]
        rw [if_neg (by decide), hb k (by omega)]
        simp only [Option.bind_some, if_true]
        rw [hc k (by omega)]
        simp only [Option.bind_some]
        rw [if_neg e0, if_neg e1, if_pos (by simp only [List.length_cons, List.length_nil]; omega)]
  | succ d ih =>
    intro l v p hp hp2 hd hz
    obtain ⟨c, hc, _⟩ := pick_ok hs p 2 hp (by omega) (by decide)
    obtain ⟨r, p', hr, h2⟩ := ih (l ++ [v]) (wrap64 ((wrap64 (v + 1)) + c)) (p + 1) (by omega) (by omega) (by omega) (by rw [List.length_append]; simp; omega)
    refine ⟨r, p', fun k hk => ?_, h2⟩
    obtain ⟨k, rfl⟩ : ∃ m, k = m + 1 := ⟨k - 1, by omega⟩
    simp only [spec_l20Cuts.l0]
    rw [if_pos (by omega), if_pos (by omega), hc k (by omega)]
    simp only [Option.bind_some]
    rw [show wrap64 (((d + 1 : Nat) : Int) - 1) = (d : Int) by rw [w64g (by omega)]; omega]
    exact hr k (by omega)
theorem draw_cuts {l : List Int} (h : ∀ x ∈ l, (Lit.int .u8 x).wf = true) : ∃ r, (∀ k, 20 ≤ k → spec_DrawCutsOk.f k l = some r) ∧ r.length ≤ 20 := by
  obtain ⟨s, hs, hb⟩ := open_ok h
  obtain ⟨c, hc, _⟩ := pick_ok hb 0 3 (by omega) (by omega) (by decide)
  obtain ⟨d, hd, d0, d1, _⟩ := pick_ok hb (0 + 1) 5 (by omega) (by omega) (by decide)
  have d1 := d1 (by decide)
  obtain ⟨e, rfl⟩ := Int.eq_ofNat_of_zero_le d0
  obtain ⟨r, p', hr, h2⟩ := draw_cuts_loop hb e [] (wrap64 (c - 1)) (0 + 1 + 1) (by omega) (by omega) (by omega) (by simp; omega)
  refine ⟨r, fun k hk => ?_, h2⟩
  unfold spec_DrawCutsOk.f
  rw [hs]
  simp only [Option.bind_some, spec_l20Cuts.f]
  rw [hc k (by omega)]
  simp only [Option.bind_some]
  rw [hd k (by omega)]
  simp only [Option.bind_some]
  rw [hr k (by omega)]
  rfl

end Go.Proofs.Ytkgnfbockgcdpaa.Pure
