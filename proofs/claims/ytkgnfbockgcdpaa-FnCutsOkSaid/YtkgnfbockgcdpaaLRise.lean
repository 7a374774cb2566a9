/- Whether whole numbers rise, and which, told by the program and by the reference; lemmas. -/
import Derived.Test.YtkgnfbockgcdpaaX3
import Derived.Test.YtkgnfbockgcdpaaX4
import Derived.Test.YtkgnfbockgcdpaaX5
import Derived.Test.YtkgnfbockgcdpaaX6
import Derived.Test.YtkgnfbockgcdpaaLGen
import Derived.Test.YtkgnfbockgcdpaaLSmall
import Derived.Test.YtkgnfbockgcdpaaLSmallS
import Derived.Test.YtkgnfbockgcdpaaVMore
set_option linter.unusedVariables false
set_option linter.unusedSimpArgs false
namespace Go.Proofs.Ytkgnfbockgcdpaa.Pure
open Go.RowKit Go.Proofs.Ytkgnfbockgcdpaa.X Go.Proofs.YtkgnfbockgcdpaaV.PrintWords Go.Proofs.YtkgnfbockgcdpaaV.PrintLast Go.Proofs.YtkgnfbockgcdpaaV.PrintMore

def GoodI (l : List Int) (j : Nat) : Prop := (-9999 ≤ l.getD j 0 ∧ l.getD j 0 ≤ 9999) ∧ (0 < j → l.getD (j - 1) 0 < l.getD j 0)
theorem rd_nat (l : List Int) (j : Nat) : rd l (j : Int) = l.getD j 0 := rfl
theorem spec_cuts (l : List Int) (hl : l.length ≤ 1000000000) : ∃ b, (∀ k, l.length + 1 ≤ k → spec_CutsOk.f k l = some b) ∧ (b = true ↔ ((∀ j, j < l.length → GoodI l j) ∧ l.length ≤ 4)) := by
  obtain ⟨b, hb, hb'⟩ := scan_all (fun k i => spec_CutsOk.l0 k l i) l.length 0 (GoodI l) (decide ((l.length : Int) ≤ 4))
    (by
      intro k j _ hj g
      obtain ⟨g1, g2⟩ := g
      show spec_CutsOk.l0 (k + 1) l j = _
      simp only [spec_CutsOk.l0]
      rw [if_pos (by omega), if_pos (by omega), l1In_eq, rd_nat, decide_eq_true g1]
      simp only [Option.bind_some, if_true]
      rw [show wrap64 ((j : Int) + 1) = ((j + 1 : Nat) : Int) by rw [w64g (by omega)]; omega]
      by_cases h0 : j = 0
      · rw [if_neg (by omega)]
      · rw [if_pos (by omega), show wrap64 ((j : Int) - 1) = ((j - 1 : Nat) : Int) by rw [w64g (by omega)]; omega, if_pos (by omega), if_pos (by omega), rd_nat]
        have := g2 (by omega)
        rw [if_neg (by omega)])
    (by
      intro k j _ hj g
      show spec_CutsOk.l0 (k + 1) l j = _
      simp only [spec_CutsOk.l0]
      rw [if_pos (by omega), if_pos (by omega), l1In_eq, rd_nat]
      by_cases g1 : -9999 ≤ l.getD j 0 ∧ l.getD j 0 ≤ 9999
      · rw [decide_eq_true g1]
        simp only [Option.bind_some, if_true]
        have g2 : 0 < j ∧ ¬ l.getD (j - 1) 0 < l.getD j 0 := by
          refine ⟨?_, ?_⟩
          · by_cases h0 : 0 < j
            · exact h0
            · exact absurd ⟨g1, fun h => absurd h h0⟩ g
          · intro h
            exact g ⟨g1, fun _ => h⟩
        obtain ⟨g2, g3⟩ := g2
        rw [if_pos (by omega), show wrap64 ((j : Int) - 1) = ((j - 1 : Nat) : Int) by rw [w64g (by omega)]; omega, if_pos (by omega), if_pos (by omega), rd_nat]
        rw [if_pos (by omega)]
      · rw [decide_eq_false g1]
        simp only [Option.bind_some]
        rw [if_neg (by decide)])
    (by
      intro k _
      show spec_CutsOk.l0 (k + 1) l l.length = _
      simp only [spec_CutsOk.l0]
      rw [if_neg (by omega)])
  refine ⟨b, fun k hk => hb k (by omega), ?_⟩
  rw [hb', decide_eq_true_iff]
  constructor
  · intro h; exact ⟨h.1, by omega⟩
  · intro h; exact ⟨h.1, by omega⟩
theorem impl_rise (l : List Int) (hl : l.length ≤ 1000000000) : ∃ b, (∀ k, l.length + 1 ≤ k → impl_rising.f k l (-9999) 9999 = some b) ∧ (b = true ↔ (∀ j, j < l.length → GoodI l j)) := by
  obtain ⟨b, hb, hb'⟩ := scan_all (fun k i => impl_rising.l0 k l (-9999) 9999 l (l.length : Int) i) l.length 0 (GoodI l) true
    (by
      intro k j _ hj g
      obtain ⟨g1, g2⟩ := g
      show impl_rising.l0 (k + 1) l (-9999) 9999 l (l.length : Int) j = _
      simp only [impl_rising.l0]
      rw [if_pos (by omega), if_pos (by omega), if_pos (by omega), between_eq, rd_nat, decide_eq_true g1]
      simp only [Option.bind_some, if_true]
      rw [show wrap64 ((j : Int) + 1) = ((j + 1 : Nat) : Int) by rw [w64g (by omega)]; omega]
      by_cases h0 : j = 0
      · rw [if_neg (by omega)]
      · rw [if_pos (by omega), show wrap64 ((j : Int) - 1) = ((j - 1 : Nat) : Int) by rw [w64g (by omega)]; omega, if_pos (by omega), if_pos (by omega), rd_nat]
        have := g2 (by omega)
        rw [if_neg (by omega)])
    (by
      intro k j _ hj g
      show impl_rising.l0 (k + 1) l (-9999) 9999 l (l.length : Int) j = _
      simp only [impl_rising.l0]
      rw [if_pos (by omega), if_pos (by omega), if_pos (by omega), between_eq, rd_nat]
      by_cases g1 : -9999 ≤ l.getD j 0 ∧ l.getD j 0 ≤ 9999
      · rw [decide_eq_true g1]
        simp only [Option.bind_some, if_true]
        have g2 : 0 < j ∧ ¬ l.getD (j - 1) 0 < l.getD j 0 := by
          refine ⟨?_, ?_⟩
          · by_cases h0 : 0 < j
            · exact h0
            · exact absurd ⟨g1, fun h => absurd h h0⟩ g
          · intro h
            exact g ⟨g1, fun _ => h⟩
        obtain ⟨g2, g3⟩ := g2
        rw [if_pos (by omega), show wrap64 ((j : Int) - 1) = ((j - 1 : Nat) : Int) by rw [w64g (by omega)]; omega, if_pos (by omega), if_pos (by omega), rd_nat]
        rw [if_pos (by omega)]
      · rw [decide_eq_false g1]
        simp only [Option.bind_some]
        rw [if_neg (by decide)])
    (by
      intro k _
      show impl_rising.l0 (k + 1) l (-9999) 9999 l (l.length : Int) l.length = _
      simp only [impl_rising.l0]
      rw [if_neg (by omega)])
  refine ⟨b, fun k hk => hb k (by omega), ?_⟩
  rw [hb']
  exact ⟨fun h => h.1, fun h => ⟨h, rfl⟩⟩
theorem impl_cuts (l : List Int) (hl : l.length ≤ 1000000000) : ∃ b, (∀ k, l.length + 1 ≤ k → impl_CutsOk.f k l = some b) ∧ (b = true ↔ ((∀ j, j < l.length → GoodI l j) ∧ l.length ≤ 4)) := by
  obtain ⟨b, hb, hb'⟩ := impl_rise l hl
  by_cases h : (l.length : Int) ≤ 4
  · refine ⟨b, fun k hk => ?_, ?_⟩
    · unfold impl_CutsOk.f
      rw [if_pos h, hb k hk]
      rfl
    · rw [hb']
      exact ⟨fun g => ⟨g, by omega⟩, fun g => g.1⟩
  · refine ⟨false, fun k hk => ?_, ?_⟩
    · unfold impl_CutsOk.f
      rw [if_neg h]
    · constructor
      · intro g; cases g
      · intro g; exact absurd (Int.ofNat_le.2 g.2) h
theorem toIntS_eq (l : List Int) (hl : l.length ≤ 1000000000) : ∀ k, l.length + 1 ≤ k → laws_toIntS.f k l = some l := by
  intro k hk
  unfold laws_toIntS.f
  rw [if_pos (by omega), if_pos (by omega)]
  refine copy_all (fun k x i => laws_toIntS.l0 k l x i) l _ (by rw [List.length_replicate]; omega) 0 ?_ ?_ k hk
  · intro k x j hj hx
    show laws_toIntS.l0 (k + 1) l x j = _
    simp only [laws_toIntS.l0]
    rw [if_pos (by omega), if_pos (by omega), if_pos (by omega), show wrap64 ((j : Int) + 1) = ((j + 1 : Nat) : Int) by rw [w64g (by omega)]; omega]
    rfl
  · intro k x hx
    show laws_toIntS.l0 (k + 1) l x l.length = _
    simp only [laws_toIntS.l0]
    rw [if_neg (by omega)]
theorem eqIntS_eq (l : List Int) (hl : l.length ≤ 1000000000) : ∀ k, l.length + 1 ≤ k → laws_eqIntS.f k l l = some true := by
  intro k hk
  unfold laws_eqIntS.f
  rw [if_pos rfl]
  refine go_all (fun k i => laws_eqIntS.l0 k l l i) l.length 0 1 true ?_ ?_ k (by omega)
  · intro k j _ hj
    show laws_eqIntS.l0 (k + 1) l l j = _
    simp only [laws_eqIntS.l0]
    rw [if_pos (by omega), if_pos (by omega), if_pos (by omega), if_pos trivial, show wrap64 ((j : Int) + 1) = ((j + 1 : Nat) : Int) by rw [w64g (by omega)]; omega]
  · intro k _
    show laws_eqIntS.l0 (k + 1) l l l.length = _
    simp only [laws_eqIntS.l0]
    rw [if_neg (by omega)]
theorem cuts_less {l : List Int} (h : (∀ j, j < l.length → GoodI l j) ∧ l.length ≤ 4) (a b : Nat) (hab : a ≤ b) :
    (∀ j, j < (l.take a ++ l.drop b).length → GoodI (l.take a ++ l.drop b) j) ∧ (l.take a ++ l.drop b).length ≤ 4 := by
  refine ⟨?_, ?_⟩
  · have h1 := (chain_iff 0 (fun x : Int => -9999 ≤ x ∧ x ≤ 9999) (fun a b => a < b) (fun a b c h h' => by omega) l).1 h.1
    exact (chain_iff 0 (fun x : Int => -9999 ≤ x ∧ x ≤ 9999) (fun a b => a < b) (fun a b c h h' => by omega) _).2 (chain_less h1 a b hab)
  · rw [List.length_append, List.length_take, List.length_drop]
    omega

end Go.Proofs.Ytkgnfbockgcdpaa.Pure
