/- Whether pairs are pairs, told by the program and by the reference; lemmas. -/
import Derived.Test.YtkgnfbockgcdpaaX36
import Derived.Test.YtkgnfbockgcdpaaX37
import Derived.Test.YtkgnfbockgcdpaaX38
import Derived.Test.YtkgnfbockgcdpaaX39
import Derived.Test.YtkgnfbockgcdpaaX40
import Derived.Test.YtkgnfbockgcdpaaX41
import Derived.Test.YtkgnfbockgcdpaaX42
import Derived.Test.YtkgnfbockgcdpaaX43
import Derived.Test.YtkgnfbockgcdpaaLGen
import Derived.Test.YtkgnfbockgcdpaaLSmall
import Derived.Test.YtkgnfbockgcdpaaLSmallS
import Derived.Test.YtkgnfbockgcdpaaVMore
set_option linter.unusedVariables false
set_option linter.unusedSimpArgs false
namespace Go.Proofs.Ytkgnfbockgcdpaa.Pure
open Go.RowKit Go.Proofs.Ytkgnfbockgcdpaa.X Go.Proofs.YtkgnfbockgcdpaaV.PrintWords Go.Proofs.YtkgnfbockgcdpaaV.PrintLast Go.Proofs.YtkgnfbockgcdpaaV.PrintMore

def OkP (x : S87) : Prop := (0 ≤ x.f0 ∧ x.f0 ≤ 6) ∧ (0 ≤ x.f1 ∧ x.f1 ≤ 6)
def LtP (x y : S87) : Prop := x.f0 < y.f0 ∨ (x.f0 = y.f0 ∧ x.f1 < y.f1)
theorem ltP_tr (a b c : S87) (h : LtP a b) (h' : LtP b c) : LtP a c := by
  unfold LtP at *
  omega
def GoodP (l : List S87) (j : Nat) : Prop := OkP (l.getD j z87) ∧ (0 < j → LtP (l.getD (j - 1) z87) (l.getD j z87))
theorem rdP_nat (l : List S87) (j : Nat) : rd_T87 l (j : Int) = l.getD j z87 := rfl
theorem less_eq (x y : S87) : ∃ b, spec_l26Less.f x.f0 x.f1 y.f0 y.f1 = some b ∧ (b = true ↔ LtP x y) := by
  unfold spec_l26Less.f LtP
  by_cases h : x.f0 < y.f0
  · exact ⟨true, by rw [if_pos h], by simp [h]⟩
  · rw [if_neg h]
    by_cases h' : x.f0 = y.f0
    · exact ⟨decide (x.f1 < y.f1), by rw [if_pos h'], by rw [decide_eq_true_iff]; exact ⟨fun g => Or.inr ⟨h', g⟩, fun g => by omega⟩⟩
    · exact ⟨false, by rw [if_neg h'], ⟨fun g => (nomatch g), fun g => absurd g (by omega)⟩⟩
theorem pok_eq (x : S87) : ∃ b, impl_Pair_ok.f x.f0 x.f1 = some b ∧ (b = true ↔ OkP x) := by
  unfold impl_Pair_ok.f OkP
  rw [between_eq]
  simp only [Option.bind_some]
  by_cases h : 0 ≤ x.f0 ∧ x.f0 ≤ 6
  · rw [decide_eq_true h, if_pos rfl, between_eq]
    exact ⟨_, rfl, by rw [decide_eq_true_iff]; exact ⟨fun g => ⟨h, g⟩, fun g => g.2⟩⟩
  · rw [decide_eq_false h, if_neg (by decide)]
    exact ⟨false, rfl, ⟨fun g => (nomatch g), fun g => absurd g.1 h⟩⟩
theorem cmpi (a b : Int) : cmp_Compare_int.f a b = some (if a < b then -1 else if a > b then 1 else 0) := by
  unfold cmp_Compare_int.f cmp_isNaN_int.f
  simp only [Option.bind_some]
  rw [if_neg (by simp), if_neg (by simp)]
  by_cases h : a < b
  · rw [if_pos h, if_pos h]
  · rw [if_neg h, if_neg h]
    by_cases h' : a > b
    · rw [if_pos h', if_pos h']
    · rw [if_neg h', if_neg h']
theorem or_eq (a b : Int) (k : Nat) (hk : 3 ≤ k) : cmp_Or_int.f k [a, b] = some (if a = 0 then b else a) := by
  obtain ⟨k, rfl⟩ : ∃ m, k = m + 1 + 1 + 1 := ⟨k - 3, by omega⟩
  have w0 : wrap64 (0 + 1) = 1 := w64g (by omega)
  have w1 : wrap64 (1 + 1) = 2 := w64g (by omega)
  have e0 : rd [a, b] 0 = a := rfl
  have e1 : rd [a, b] 1 = b := rfl
  show cmp_Or_int.l0 (k + 1 + 1 + 1) 0 [a, b] 2 0 = _
  rw [cmp_Or_int.l0, if_pos (by decide), if_pos (by decide), if_pos (show (0 : Int) < (([a, b] : List Int).length : Int) by simp), e0]
  by_cases h : a = 0
  · rw [if_pos h, if_pos h, w0, cmp_Or_int.l0, if_pos (by decide), if_pos (by decide), if_pos (show (1 : Int) < (([a, b] : List Int).length : Int) by simp), e1]
    by_cases h' : b = 0
    · rw [if_pos h', w1, cmp_Or_int.l0, if_neg (by decide), h']
    · rw [if_neg h']
  · rw [if_neg h, if_neg h]
theorem order_eq (x y : S87) : ∃ v, (∀ k, 3 ≤ k → impl_Pair_order.f k x.f0 x.f1 y.f0 y.f1 = some v) ∧ (v ≥ 0 ↔ ¬ LtP x y) := by
  refine ⟨(if (if x.f0 < y.f0 then -1 else if x.f0 > y.f0 then 1 else 0 : Int) = 0 then (if x.f1 < y.f1 then -1 else if x.f1 > y.f1 then 1 else 0 : Int) else (if x.f0 < y.f0 then -1 else if x.f0 > y.f0 then 1 else 0 : Int)), fun k hk => ?_, ?_⟩
  · unfold impl_Pair_order.f
    rw [cmpi, Option.bind_some, cmpi, Option.bind_some, or_eq _ _ k hk, Option.bind_some]
  · unfold LtP
    by_cases h : x.f0 < y.f0
    · rw [if_pos h, if_neg (by decide)]
      exact ⟨fun g => absurd g (by decide), fun g => absurd (Or.inl h) g⟩
    · rw [if_neg h]
      by_cases h' : x.f0 > y.f0
      · rw [if_pos h', if_neg (by decide)]
        exact ⟨fun _ => by omega, fun _ => by decide⟩
      · rw [if_neg h', if_pos rfl]
        by_cases g : x.f1 < y.f1
        · rw [if_pos g]
          exact ⟨fun e => absurd e (by decide), fun e => absurd (Or.inr ⟨by omega, g⟩) e⟩
        · rw [if_neg g]
          by_cases g' : x.f1 > y.f1
          · rw [if_pos g']
            exact ⟨fun _ => by omega, fun _ => by decide⟩
          · rw [if_neg g']
            exact ⟨fun _ => by omega, fun _ => by decide⟩
theorem l1In_ok (x lo hi : Int) : ∃ b, spec_l1In.f x lo hi = some b ∧ (b = true ↔ lo ≤ x ∧ x ≤ hi) := ⟨_, l1In_eq x lo hi, decide_eq_true_iff⟩
theorem spec_pairs (l : List S87) (hl : l.length ≤ 1000000000) : ∃ b, (∀ k, l.length + 1 ≤ k → spec_PairsOk.f k l = some b) ∧ (b = true ↔ (∀ j, j < l.length → GoodP l j)) := by
  obtain ⟨b, hb, hb'⟩ := scan_all (fun k i => spec_PairsOk.l0 k l i) l.length 0 (GoodP l) true
    (by
      intro k j _ hj g
      obtain ⟨g1, g2⟩ := g
      show spec_PairsOk.l0 (k + 1) l j = _
      rw [spec_PairsOk.l0, if_pos (by omega), if_pos (by omega), rdP_nat]
      obtain ⟨b1, e1, h1⟩ := l1In_ok (l.getD j z87).f0 0 6
      obtain ⟨b2, e2, h2⟩ := l1In_ok (l.getD j z87).f1 0 6
      rw [e1, Option.bind_some, if_pos (h1.2 g1.1), e2, Option.bind_some, if_pos (h2.2 g1.2)]
      rw [show wrap64 ((j : Int) + 1) = ((j + 1 : Nat) : Int) by rw [w64g (by omega)]; omega]
      by_cases h0 : j = 0
      · rw [if_neg (by omega)]
      · rw [if_pos (by omega), show wrap64 ((j : Int) - 1) = ((j - 1 : Nat) : Int) by rw [w64g (by omega)]; omega, if_pos (by omega), if_pos (by omega), rdP_nat]
        obtain ⟨b3, e3, h3⟩ := less_eq (l.getD (j - 1) z87) (l.getD j z87)
        rw [e3, Option.bind_some, if_pos (h3.2 (g2 (by omega)))])
    (by
      intro k j _ hj g
      show spec_PairsOk.l0 (k + 1) l j = _
      rw [spec_PairsOk.l0, if_pos (by omega), if_pos (by omega), rdP_nat]
      obtain ⟨b1, e1, h1⟩ := l1In_ok (l.getD j z87).f0 0 6
      obtain ⟨b2, e2, h2⟩ := l1In_ok (l.getD j z87).f1 0 6
      rw [e1, Option.bind_some]
      by_cases c1 : b1 = true
      · rw [if_pos c1, e2, Option.bind_some]
        by_cases c2 : b2 = true
        · rw [if_pos c2]
          have g2 : 0 < j ∧ ¬ LtP (l.getD (j - 1) z87) (l.getD j z87) := by
            refine ⟨?_, ?_⟩
            · by_cases h0 : 0 < j
              · exact h0
              · exact absurd ⟨⟨h1.1 c1, h2.1 c2⟩, fun h => absurd h h0⟩ g
            · intro h
              exact g ⟨⟨h1.1 c1, h2.1 c2⟩, fun _ => h⟩
          rw [if_pos (by omega), show wrap64 ((j : Int) - 1) = ((j - 1 : Nat) : Int) by rw [w64g (by omega)]; omega, if_pos (by omega), if_pos (by omega), rdP_nat]
          obtain ⟨b3, e3, h3⟩ := less_eq (l.getD (j - 1) z87) (l.getD j z87)
          rw [e3, Option.bind_some, if_neg (fun h => g2.2 (h3.1 h))]
        · rw [if_neg c2]
      · rw [if_neg c1])
    (by
      intro k _
      show spec_PairsOk.l0 (k + 1) l l.length = _
      rw [spec_PairsOk.l0, if_neg (by omega)])
  exact ⟨b, fun k hk => hb k (by omega), hb'.trans ⟨fun h => h.1, fun h => ⟨h, rfl⟩⟩⟩
theorem impl_pairs (l : List S87) (hl : l.length ≤ 1000000000) : ∃ b, (∀ k, l.length + 4 ≤ k → impl_PairsOk.f k l = some b) ∧ (b = true ↔ (∀ j, j < l.length → GoodP l j)) := by
  obtain ⟨b, hb, hb'⟩ := scan_all (fun k i => impl_PairsOk.l0 k l l (l.length : Int) i) l.length 3 (GoodP l) true
    (by
      intro k j hk hj g
      obtain ⟨g1, g2⟩ := g
      show impl_PairsOk.l0 (k + 1) l l (l.length : Int) j = _
      rw [impl_PairsOk.l0, if_pos (by omega), if_pos (by omega), if_pos (by omega), rdP_nat]
      obtain ⟨b1, e1, h1⟩ := pok_eq (l.getD j z87)
      rw [e1, Option.bind_some, if_pos (h1.2 g1)]
      rw [show wrap64 ((j : Int) + 1) = ((j + 1 : Nat) : Int) by rw [w64g (by omega)]; omega]
      by_cases h0 : j = 0
      · rw [if_neg (by omega)]
      · rw [if_pos (by omega), show wrap64 ((j : Int) - 1) = ((j - 1 : Nat) : Int) by rw [w64g (by omega)]; omega, if_pos (by omega), if_pos (by omega), rdP_nat]
        obtain ⟨v, e3, h3⟩ := order_eq (l.getD (j - 1) z87) (l.getD j z87)
        rw [e3 k hk, Option.bind_some, if_neg (fun h => h3.1 h (g2 (by omega)))])
    (by
      intro k j hk hj g
      show impl_PairsOk.l0 (k + 1) l l (l.length : Int) j = _
      rw [impl_PairsOk.l0, if_pos (by omega), if_pos (by omega), if_pos (by omega), rdP_nat]
      obtain ⟨b1, e1, h1⟩ := pok_eq (l.getD j z87)
      rw [e1, Option.bind_some]
      by_cases c1 : b1 = true
      · rw [if_pos c1]
        have g2 : 0 < j ∧ ¬ LtP (l.getD (j - 1) z87) (l.getD j z87) := by
          refine ⟨?_, ?_⟩
          · by_cases h0 : 0 < j
            · exact h0
            · exact absurd ⟨h1.1 c1, fun h => absurd h h0⟩ g
          · intro h
            exact g ⟨h1.1 c1, fun _ => h⟩
        rw [if_pos (by omega), show wrap64 ((j : Int) - 1) = ((j - 1 : Nat) : Int) by rw [w64g (by omega)]; omega, if_pos (by omega), if_pos (by omega), rdP_nat]
        obtain ⟨v, e3, h3⟩ := order_eq (l.getD (j - 1) z87) (l.getD j z87)
        rw [e3 k hk, Option.bind_some, if_pos (h3.2 g2.2)]
      · rw [if_neg c1])
    (by
      intro k _
      show impl_PairsOk.l0 (k + 1) l l (l.length : Int) l.length = _
      rw [impl_PairsOk.l0, if_neg (by omega)])
  exact ⟨b, fun k hk => hb k (by omega), hb'.trans ⟨fun h => h.1, fun h => ⟨h, rfl⟩⟩⟩
theorem eqPairS_eq (l : List S87) (hl : l.length ≤ 1000000000) : ∀ k, l.length + 1 ≤ k → laws_eqPairS.f k l l = some true := by
  intro k hk
  unfold laws_eqPairS.f
  rw [if_pos rfl]
  refine go_all (fun k i => laws_eqPairS.l0 k l l i) l.length 0 1 true ?_ ?_ k (by omega)
  · intro k j _ hj
    show laws_eqPairS.l0 (k + 1) l l j = _
    rw [laws_eqPairS.l0, if_pos (by omega), if_pos (by omega), if_pos (by omega), laws_eqPair.f, if_pos rfl, if_pos rfl, Option.bind_some, if_pos rfl, show wrap64 ((j : Int) + 1) = ((j + 1 : Nat) : Int) by rw [w64g (by omega)]; omega]
  · intro k _
    show laws_eqPairS.l0 (k + 1) l l l.length = _
    rw [laws_eqPairS.l0, if_neg (by omega)]
theorem pairs_less {l : List S87} (h : ∀ j, j < l.length → GoodP l j) (a b : Nat) (hab : a ≤ b) :
    ∀ j, j < (l.take a ++ l.drop b).length → GoodP (l.take a ++ l.drop b) j := by
  have h1 := (chain_iff z87 OkP LtP ltP_tr l).1 h
  exact (chain_iff z87 OkP LtP ltP_tr _).2 (chain_less h1 a b hab)

end Go.Proofs.Ytkgnfbockgcdpaa.Pure
