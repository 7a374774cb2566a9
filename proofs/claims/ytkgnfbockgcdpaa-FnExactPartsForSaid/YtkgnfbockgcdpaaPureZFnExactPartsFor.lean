/- The program's PartsFor returns what the reference's returns, for all arguments; no condition. -/
import Derived.Test.YtkgnfbockgcdpaaVMore
import Derived.Test.YtkgnfbockgcdpaaX0
import Derived.Test.YtkgnfbockgcdpaaZFnExactPartsFor4
set_option linter.unusedVariables false
set_option linter.unusedSimpArgs false
namespace Go.Proofs.Ytkgnfbockgcdpaa.Pure
open Go.RowKit Go.Proofs.YtkgnfbockgcdpaaV.PrintWords Go.Proofs.YtkgnfbockgcdpaaV.PrintLast Go.Proofs.YtkgnfbockgcdpaaV.PrintMore

theorem w64g {n : Int} (h : -9223372036854775808 ≤ n ∧ n ≤ 9223372036854775807) : wrap64 n = n := by unfold wrap64; omega
theorem scan_all (F : Nat → Int → Option Bool) (n K : Nat) (G : Nat → Prop) (fin : Bool)
    (h1 : ∀ k j, K ≤ k → j < n → G j → F (k + 1) (j : Int) = F k ((j + 1 : Nat) : Int))
    (h2 : ∀ k j, K ≤ k → j < n → ¬ G j → F (k + 1) (j : Int) = some false)
    (h3 : ∀ k, K ≤ k → F (k + 1) (n : Int) = some fin) :
    ∃ b, (∀ k, n + 1 + K ≤ k → F k 0 = some b) ∧ (b = true ↔ ((∀ j, j < n → G j) ∧ fin = true)) := by
  have main : ∀ d i, i + d = n → ∃ b, (∀ k, d + 1 + K ≤ k → F k (i : Int) = some b) ∧ (b = true ↔ ((∀ j, i ≤ j → j < n → G j) ∧ fin = true)) := by
    intro d
    induction d with
    | zero =>
      intro i hi
      have hi : i = n := by omega
      subst hi
      refine ⟨fin, fun k hk => ?_, ⟨fun h => ⟨fun j h1 h2 => by omega, h⟩, fun h => h.2⟩⟩
      obtain ⟨k, rfl⟩ : ∃ m, k = m + 1 := ⟨k - 1, by omega⟩
      exact h3 k (by omega)
    | succ d ih =>
      intro i hi
      by_cases g : G i
      · obtain ⟨b, hb, hb'⟩ := ih (i + 1) (by omega)
        refine ⟨b, fun k hk => ?_, ?_⟩
        · obtain ⟨k, rfl⟩ : ∃ m, k = m + 1 := ⟨k - 1, by omega⟩
          rw [h1 k i (by omega) (by omega) g]
          exact hb k (by omega)
        · rw [hb']
          constructor
          · intro h
            refine ⟨fun j hj hj' => ?_, h.2⟩
            by_cases e : j = i
            · rw [e]; exact g
            · exact h.1 j (by omega) hj'
          · intro h
            exact ⟨fun j hj hj' => h.1 j (by omega) hj', h.2⟩
      · refine ⟨false, fun k hk => ?_, ?_⟩
        · obtain ⟨k, rfl⟩ : ∃ m, k = m + 1 := ⟨k - 1, by omega⟩
          exact h2 k i (by omega) (by omega) g
        · constructor
          · intro h
            cases h
          · intro h
            exact absurd (h.1 i (Nat.le_refl _) (by omega)) g
  obtain ⟨b, hb, hb'⟩ := main n 0 (by omega)
  refine ⟨b, hb, ?_⟩
  rw [hb']
  constructor
  · intro h; exact ⟨fun j hj => h.1 j (by omega) hj, h.2⟩
  · intro h; exact ⟨fun j _ hj => h.1 j hj, h.2⟩
theorem go_all {α : Type} (F : Nat → Int → Option α) (n K c : Nat) (r : α)
    (h1 : ∀ k j, K ≤ k → j < n → F (k + c) (j : Int) = F k ((j + 1 : Nat) : Int))
    (h3 : ∀ k, K ≤ k → F (k + c) (n : Int) = some r) : ∀ k, K + c * (n + 1) ≤ k → F k 0 = some r := by
  have main : ∀ d i, i + d = n → ∀ k, K + c * (d + 1) ≤ k → F k (i : Int) = some r := by
    intro d
    induction d with
    | zero =>
      intro i hi k hk
      have hi : i = n := by omega
      subst hi
      obtain ⟨k, rfl⟩ : ∃ m, k = m + c := ⟨k - c, by omega⟩
      exact h3 k (by omega)
    | succ d ih =>
      intro i hi k hk
      have e : c * (d + 1 + 1) = c * (d + 1) + c := Nat.mul_succ _ _
      obtain ⟨k, rfl⟩ : ∃ m, k = m + c := ⟨k - c, by omega⟩
      rw [h1 k i (by omega) (by omega)]
      exact ih (i + 1) (by omega) k (by omega)
  exact main n 0 (by omega)
theorem copy_all {β : Type} (F : Nat → List β → Int → Option (List β)) (L : List β) (x0 : List β) (hx : x0.length = L.length) (d : β)
    (h1 : ∀ k (x : List β) j, j < L.length → x.length = L.length → F (k + 1) x (j : Int) = F k (x.set j (L.getD j d)) ((j + 1 : Nat) : Int))
    (h3 : ∀ k x, x.length = L.length → F (k + 1) x (L.length : Int) = some x) : ∀ k, L.length + 1 ≤ k → F k x0 0 = some L := by
  have main : ∀ e i, i + e = L.length → ∀ k, e + 1 ≤ k → F k (L.take i ++ x0.drop i) (i : Int) = some L := by
    intro e
    induction e with
    | zero =>
      intro i hi k hk
      have hi : i = L.length := by omega
      subst hi
      obtain ⟨k, rfl⟩ : ∃ m, k = m + 1 := ⟨k - 1, by omega⟩
      rw [h3 k _ (by simp [hx]), List.take_length, List.drop_of_length_le (by omega), List.append_nil]
    | succ e ih =>
      intro i hi k hk
      obtain ⟨k, rfl⟩ : ∃ m, k = m + 1 := ⟨k - 1, by omega⟩
      have hlen : (L.take i ++ x0.drop i).length = L.length := by
        rw [List.length_append, List.length_take, List.length_drop]
        omega
      rw [h1 k _ i (by omega) hlen]
      have hi' : i < L.length := by omega
      have hi2 : i < x0.length := by omega
      have e2 : (L.take i ++ x0.drop i).set i (L.getD i d) = L.take (i + 1) ++ x0.drop (i + 1) := by
        rw [List.set_append_right _ _ (by rw [List.length_take]; omega), List.length_take, show i - min i L.length = 0 by omega, List.drop_eq_getElem_cons hi2, List.set_cons_zero]
        rw [List.take_succ_eq_append_getElem hi', List.append_assoc]
        congr 1
        rw [List.getD_eq_getElem?_getD, List.getElem?_eq_getElem hi']
        rfl
      rw [e2]
      exact ih (i + 1) (by omega) k (by omega)
  intro k hk
  have := main L.length 0 (by omega) k hk
  simpa using this
theorem chain_iff {α : Type} (d : α) (Q : α → Prop) (R : α → α → Prop) (tr : ∀ a b c, R a b → R b c → R a c) (l : List α) :
    (∀ j, j < l.length → Q (l.getD j d) ∧ (0 < j → R (l.getD (j - 1) d) (l.getD j d))) ↔ ((∀ x ∈ l, Q x) ∧ l.Pairwise R) := by
  have gd : ∀ j (h : j < l.length), l.getD j d = l[j] := by
    intro j h
    rw [List.getD_eq_getElem?_getD, List.getElem?_eq_getElem h]
    rfl
  constructor
  · intro h
    refine ⟨fun x hx => ?_, ?_⟩
    · obtain ⟨j, hj, rfl⟩ := List.getElem_of_mem hx
      rw [← gd j hj]
      exact (h j hj).1
    · rw [List.pairwise_iff_getElem]
      have main : ∀ e i (hi : i < l.length) (hj : i + e + 1 < l.length), R l[i] l[i + e + 1] := by
        intro e
        induction e with
        | zero =>
          intro i hi hj
          have := (h (i + 0 + 1) hj).2 (by omega)
          rw [gd _ (show i + 0 + 1 - 1 < l.length by omega), gd _ hj] at this
          exact this
        | succ e ih =>
          intro i hi hj
          have h1 := ih i hi (by omega)
          have := (h (i + (e + 1) + 1) hj).2 (by omega)
          rw [gd _ (show i + (e + 1) + 1 - 1 < l.length by omega), gd _ hj] at this
          exact tr _ _ _ h1 this
      intro i j hi hj hij
      obtain ⟨e, rfl⟩ : ∃ e, j = i + e + 1 := ⟨j - i - 1, by omega⟩
      exact main e i hi hj
  · intro h j hj
    refine ⟨?_, fun h0 => ?_⟩
    · rw [gd j hj]
      exact h.1 _ (List.getElem_mem hj)
    · rw [gd j hj, gd (j - 1) (by omega)]
      exact List.pairwise_iff_getElem.1 h.2 (j - 1) j (by omega) hj (by omega)
/-- What holds of a chain holds of the chain without one of its elements. -/
theorem chain_less {α : Type} {Q : α → Prop} {R : α → α → Prop} {l : List α} (h : (∀ x ∈ l, Q x) ∧ l.Pairwise R) (a b : Nat) (hab : a ≤ b) :
    (∀ x ∈ l.take a ++ l.drop b, Q x) ∧ (l.take a ++ l.drop b).Pairwise R := by
  have sub : (l.take a ++ l.drop b).Sublist l := by
    have h1 : (l.take a ++ l.drop b).Sublist (l.take a ++ l.drop a) := by
      apply List.Sublist.append (List.Sublist.refl _)
      rw [show b = a + (b - a) by omega, ← List.drop_drop]
      exact List.drop_sublist _ _
    rwa [List.take_append_drop] at h1
  exact ⟨fun x hx => h.1 x (sub.subset hx), h.2.sublist sub⟩
theorem go_all2 {α : Type} (F : Nat → Int → Option α) (n K : Nat) (r : α)
    (h1 : ∀ k j, K ≤ k → j < n → F (k + 1 + 1) (j : Int) = F k ((j + 1 : Nat) : Int))
    (h3 : ∀ k, K ≤ k → F (k + 1 + 1) (n : Int) = some r) : ∀ k, K + 2 * (n + 1) ≤ k → F k 0 = some r :=
  go_all F n K 2 r h1 h3
theorem any_ok {α : Type} (F : Nat → Int → Option α) (n K : Nat)
    (h1 : ∀ j, j < n → (∃ r, ∀ k, K ≤ k → F (k + 1) (j : Int) = some r) ∨ (∀ k, K ≤ k → F (k + 1) (j : Int) = F k ((j + 1 : Nat) : Int)))
    (h3 : ∃ r, ∀ k, K ≤ k → F (k + 1) (n : Int) = some r) : ∃ r, ∀ k, n + 1 + K ≤ k → F k 0 = some r := by
  have main : ∀ d i, i + d = n → ∃ r, ∀ k, d + 1 + K ≤ k → F k (i : Int) = some r := by
    intro d
    induction d with
    | zero =>
      intro i hi
      have hi : i = n := by omega
      subst hi
      obtain ⟨r, hr⟩ := h3
      refine ⟨r, fun k hk => ?_⟩
      obtain ⟨k, rfl⟩ : ∃ m, k = m + 1 := ⟨k - 1, by omega⟩
      exact hr k (by omega)
    | succ d ih =>
      intro i hi
      rcases h1 i (by omega) with ⟨r, hr⟩ | h
      · refine ⟨r, fun k hk => ?_⟩
        obtain ⟨k, rfl⟩ : ∃ m, k = m + 1 := ⟨k - 1, by omega⟩
        exact hr k (by omega)
      · obtain ⟨r, hr⟩ := ih (i + 1) (by omega)
        refine ⟨r, fun k hk => ?_⟩
        obtain ⟨k, rfl⟩ : ∃ m, k = m + 1 := ⟨k - 1, by omega⟩
        rw [h k (by omega)]
        exact hr k (by omega)
  exact main n 0 (by omega)

end Go.Proofs.Ytkgnfbockgcdpaa.Pure
set_option linter.unusedVariables false
set_option linter.unusedSimpArgs false
namespace Go.Proofs.Ytkgnfbockgcdpaa.Pure
open Go.RowKit Go.Proofs.Ytkgnfbockgcdpaa.X Go.Proofs.YtkgnfbockgcdpaaV.PrintWords Go.Proofs.YtkgnfbockgcdpaaV.PrintLast Go.Proofs.YtkgnfbockgcdpaaV.PrintMore

theorem between_eq (a lo hi : Int) : impl_between.f a lo hi = some (decide (lo ≤ a ∧ a ≤ hi)) := by
  unfold impl_between.f
  by_cases h : a ≥ lo
  · rw [if_pos h]
    by_cases g : a ≤ hi
    · rw [decide_eq_true g, decide_eq_true ⟨h, g⟩]
    · rw [decide_eq_false g, decide_eq_false (fun h' => g h'.2)]
  · rw [if_neg h, decide_eq_false (fun h' => h h'.1)]

end Go.Proofs.Ytkgnfbockgcdpaa.Pure
set_option linter.unusedVariables false
set_option linter.unusedSimpArgs false
namespace Go.Proofs.Ytkgnfbockgcdpaa.Pure
open Go.RowKit Go.Proofs.Ytkgnfbockgcdpaa.X Go.Proofs.YtkgnfbockgcdpaaV.PrintWords Go.Proofs.YtkgnfbockgcdpaaV.PrintLast Go.Proofs.YtkgnfbockgcdpaaV.PrintMore

theorem l1In_eq (a lo hi : Int) : spec_l1In.f a lo hi = some (decide (lo ≤ a ∧ a ≤ hi)) := by
  unfold spec_l1In.f
  by_cases h : a ≥ lo
  · rw [if_pos h]
    by_cases g : a ≤ hi
    · rw [decide_eq_true g, decide_eq_true ⟨h, g⟩]
    · rw [decide_eq_false g, decide_eq_false (fun h' => g h'.2)]
  · rw [if_neg h, decide_eq_false (fun h' => h h'.1)]

end Go.Proofs.Ytkgnfbockgcdpaa.Pure
set_option linter.unusedVariables false
set_option linter.unusedSimpArgs false
namespace Go.Proofs.Ytkgnfbockgcdpaa.Pure
open Go.RowKit Go.Proofs.Ytkgnfbockgcdpaa.X Go.Proofs.YtkgnfbockgcdpaaV.PrintWords Go.Proofs.YtkgnfbockgcdpaaV.PrintLast Go.Proofs.YtkgnfbockgcdpaaV.PrintMore

def GoodI (l : List Int) (j : Nat) : Prop := (-9999 ≤ l.getD j 0 ∧ l.getD j 0 ≤ 9999) ∧ (0 < j → l.getD (j - 1) 0 < l.getD j 0)
theorem rd_nat (l : List Int) (j : Nat) : rd l (j : Int) = l.getD j 0 := rfl
theorem spec_cuts (l : List Int) (hl : l.length ≤ 1000000000) : ∃ b, (∀ k, l.length + 1 ≤ k → spec_CutsOk.f k l = some b) ∧ (b = true ↔ ((∀ j, j < l.length → GoodI l j) ∧ l.length ≤ 4)) := by
  obtain ⟨b, hb, hb'⟩ := scan_all (fun k i => spec_CutsOk.l0 k l i) l.length 0 (GoodI l) (decide ((l.length : Int) ≤ 4))
    (by
      intro k j _ hj g
      obtain ⟨g1, g2⟩ := g
      show spec_CutsOk.l0 (k + 1) l j = _
      simp only [spec_CutsOk.l0]
      rw [if_pos (by omega), if_pos (by omega), l1In_eq, rd_nat, decide_eq_true g1]
      simp only [Option.bind_some, if_true]
      rw [show wrap64 ((j : Int) + 1) = ((j + 1 : Nat) : Int) by rw [w64g (by omega)]; omega]
      by_cases h0 : j = 0
      · rw [if_neg (by omega)]
      · rw [if_pos (by omega), show wrap64 ((j : Int) - 1) = ((j - 1 : Nat) : Int) by rw [w64g (by omega)]; omega, if_pos (by omega), if_pos (by omega), rd_nat]
        have := g2 (by omega)
        rw [if_neg (by omega)])
    (by
      intro k j _ hj g
      show spec_CutsOk.l0 (k + 1) l j = _
      simp only [spec_CutsOk.l0]
      rw [if_pos (by omega), if_pos (by omega), l1In_eq, rd_nat]
      by_cases g1 : -9999 ≤ l.getD j 0 ∧ l.getD j 0 ≤ 9999
      · rw [decide_eq_true g1]
        simp only [Option.bind_some, if_true]
        have g2 : 0 < j ∧ ¬ l.getD (j - 1) 0 < l.getD j 0 := by
          refine ⟨?_, ?_⟩
          · by_cases h0 : 0 < j
            · exact h0
            · exact absurd ⟨g1, fun h => absurd h h0⟩ g
          · intro h
            exact g ⟨g1, fun _ => h⟩
        obtain ⟨g2, g3⟩ := g2
        rw [if_pos (by omega), show wrap64 ((j : Int) - 1) = ((j - 1 : Nat) : Int) by rw [w64g (by omega)]; omega, if_pos (by omega), if_pos (by omega), rd_nat]
        rw [if_pos (by omega)]
      · rw [decide_eq_false g1]
        simp only [Option.bind_some]
        rw [if_neg (by decide)])
    (by
      intro k _
      show spec_CutsOk.l0 (k + 1) l l.length = _
      simp only [spec_CutsOk.l0]
      rw [if_neg (by omega)])
  refine ⟨b, fun k hk => hb k (by omega), ?_⟩
  rw [hb', decide_eq_true_iff]
  constructor
  · intro h; exact ⟨h.1, by omega⟩
  · intro h; exact ⟨h.1, by omega⟩
theorem impl_rise (l : List Int) (hl : l.length ≤ 1000000000) : ∃ b, (∀ k, l.length + 1 ≤ k → impl_rising.f k l (-9999) 9999 = some b) ∧ (b = true ↔ (∀ j, j < l.length → GoodI l j)) := by
  obtain ⟨b, hb, hb'⟩ := scan_all (fun k i => impl_rising.l0 k l (-9999) 9999 l (l.length : Int) i) l.length 0 (GoodI l) true
    (by
      intro k j _ hj g
      obtain ⟨g1, g2⟩ := g
      show impl_rising.l0 (k + 1) l (-9999) 9999 l (l.length : Int) j = _
      simp only [impl_rising.l0]
      rw [if_pos (by omega), if_pos (by omega), if_pos (by omega), between_eq, rd_nat, decide_eq_true g1]
      simp only [Option.bind_some, if_true]
      rw [show wrap64 ((j : Int) + 1) = ((j + 1 : Nat) : Int) by rw [w64g (by omega)]; omega]
      by_cases h0 : j = 0
      · rw [if_neg (by omega)]
      · rw [if_pos (by omega), show wrap64 ((j : Int) - 1) = ((j - 1 : Nat) : Int) by rw [w64g (by omega)]; omega, if_pos (by omega), if_pos (by omega), rd_nat]
        have := g2 (by omega)
        rw [if_neg (by omega)])
    (by
      intro k j _ hj g
      show impl_rising.l0 (k + 1) l (-9999) 9999 l (l.length : Int) j = _
      simp only [impl_rising.l0]
      rw [if_pos (by omega), if_pos (by omega), if_pos (by omega), between_eq, rd_nat]
      by_cases g1 : -9999 ≤ l.getD j 0 ∧ l.getD j 0 ≤ 9999
      · rw [decide_eq_true g1]
        simp only [Option.bind_some, if_true]
        have g2 : 0 < j ∧ ¬ l.getD (j - 1) 0 < l.getD j 0 := by
          refine ⟨?_, ?_⟩
          · by_cases h0 : 0 < j
            · exact h0
            · exact absurd ⟨g1, fun h => absurd h h0⟩ g
          · intro h
            exact g ⟨g1, fun _ => h⟩
        obtain ⟨g2, g3⟩ := g2
        rw [if_pos (by omega), show wrap64 ((j : Int) - 1) = ((j - 1 : Nat) : Int) by rw [w64g (by omega)]; omega, if_pos (by omega), if_pos (by omega), rd_nat]
        rw [if_pos (by omega)]
      · rw [decide_eq_false g1]
        simp only [Option.bind_some]
        rw [if_neg (by decide)])
    (by
      intro k _
      show impl_rising.l0 (k + 1) l (-9999) 9999 l (l.length : Int) l.length = _
      simp only [impl_rising.l0]
      rw [if_neg (by omega)])
  refine ⟨b, fun k hk => hb k (by omega), ?_⟩
  rw [hb']
  exact ⟨fun h => h.1, fun h => ⟨h, rfl⟩⟩
theorem impl_cuts (l : List Int) (hl : l.length ≤ 1000000000) : ∃ b, (∀ k, l.length + 1 ≤ k → impl_CutsOk.f k l = some b) ∧ (b = true ↔ ((∀ j, j < l.length → GoodI l j) ∧ l.length ≤ 4)) := by
  obtain ⟨b, hb, hb'⟩ := impl_rise l hl
  by_cases h : (l.length : Int) ≤ 4
  · refine ⟨b, fun k hk => ?_, ?_⟩
    · unfold impl_CutsOk.f
      rw [if_pos h, hb k hk]
      rfl
    · rw [hb']
      exact ⟨fun g => ⟨g, by omega⟩, fun g => g.1⟩
  · refine ⟨false, fun k hk => ?_, ?_⟩
    · unfold impl_CutsOk.f
      rw [if_neg h]
    · constructor
      · intro g; cases g
      · intro g; exact absurd (Int.ofNat_le.2 g.2) h
theorem toIntS_eq (l : List Int) (hl : l.length ≤ 1000000000) : ∀ k, l.length + 1 ≤ k → laws_toIntS.f k l = some l := by
  intro k hk
  unfold laws_toIntS.f
  rw [if_pos (by omega), if_pos (by omega)]
  refine copy_all (fun k x i => laws_toIntS.l0 k l x i) l _ (by rw [List.length_replicate]; omega) 0 ?_ ?_ k hk
  · intro k x j hj hx
    show laws_toIntS.l0 (k + 1) l x j = _
    simp only [laws_toIntS.l0]
    rw [if_pos (by omega), if_pos (by omega), if_pos (by omega), show wrap64 ((j : Int) + 1) = ((j + 1 : Nat) : Int) by rw [w64g (by omega)]; omega]
    rfl
  · intro k x hx
    show laws_toIntS.l0 (k + 1) l x l.length = _
    simp only [laws_toIntS.l0]
    rw [if_neg (by omega)]
theorem eqIntS_eq (l : List Int) (hl : l.length ≤ 1000000000) : ∀ k, l.length + 1 ≤ k → laws_eqIntS.f k l l = some true := by
  intro k hk
  unfold laws_eqIntS.f
  rw [if_pos rfl]
  refine go_all (fun k i => laws_eqIntS.l0 k l l i) l.length 0 1 true ?_ ?_ k (by omega)
  · intro k j _ hj
    show laws_eqIntS.l0 (k + 1) l l j = _
    simp only [laws_eqIntS.l0]
    rw [if_pos (by omega), if_pos (by omega), if_pos (by omega), if_pos trivial, show wrap64 ((j : Int) + 1) = ((j + 1 : Nat) : Int) by rw [w64g (by omega)]; omega]
  · intro k _
    show laws_eqIntS.l0 (k + 1) l l l.length = _
    simp only [laws_eqIntS.l0]
    rw [if_neg (by omega)]
theorem cuts_less {l : List Int} (h : (∀ j, j < l.length → GoodI l j) ∧ l.length ≤ 4) (a b : Nat) (hab : a ≤ b) :
    (∀ j, j < (l.take a ++ l.drop b).length → GoodI (l.take a ++ l.drop b) j) ∧ (l.take a ++ l.drop b).length ≤ 4 := by
  refine ⟨?_, ?_⟩
  · have h1 := (chain_iff 0 (fun x : Int => -9999 ≤ x ∧ x ≤ 9999) (fun a b => a < b) (fun a b c h h' => by omega) l).1 h.1
    exact (chain_iff 0 (fun x : Int => -9999 ≤ x ∧ x ≤ 9999) (fun a b => a < b) (fun a b c h h' => by omega) _).2 (chain_less h1 a b hab)
  · rw [List.length_append, List.length_take, List.length_drop]
    omega

end Go.Proofs.Ytkgnfbockgcdpaa.Pure
set_option linter.unusedVariables false
set_option linter.unusedSimpArgs false
namespace Go.Proofs.Ytkgnfbockgcdpaa.Pure
open Go.RowKit Go.Proofs.Ytkgnfbockgcdpaa.X Go.Proofs.YtkgnfbockgcdpaaV.PrintWords Go.Proofs.YtkgnfbockgcdpaaV.PrintLast Go.Proofs.YtkgnfbockgcdpaaV.PrintMore

theorem toList_data (s : ByteArray) : s.toList = s.data.toList := ByteArray.toList_eq s
theorem data_size (s : ByteArray) : s.data.toList.length = s.size := by rw [Array.length_toList]; rfl
theorem nil_iff (s : ByteArray) : s.toList = ([] : List UInt8) ↔ s.size = 0 := by
  rw [toList_data, ← List.length_eq_zero_iff, data_size]
theorem nil_beq (s : ByteArray) : (s.toList == ([] : List UInt8)) = decide (s.size = 0) := by
  rw [Bool.eq_iff_iff, beq_iff_eq, nil_iff, decide_eq_true_iff]
/-- Small letters alone. -/
def Low (s : ByteArray) : Bool := s.data.toList.all fun c => decide (97 ≤ c.toNat ∧ c.toNat ≤ 122)
/-- A value: its kind, its number, its text. -/
def VOk (t n : Int) (s : ByteArray) : Bool :=
  decide (t = 0 ∧ n = 0 ∧ s.size = 0) || decide (t = 1 ∧ s.size = 0 ∧ -9999 ≤ n ∧ n ≤ 9999) || (decide (t = 2 ∧ n = 0 ∧ s.size ≤ 6) && Low s) || decide (t = 3 ∧ s.size = 0 ∧ 0 ≤ n ∧ n ≤ 1)
theorem letters_eq (s : ByteArray) (h : s.size ≤ 6) : impl_letters.f s = some (Low s) := by
  unfold impl_letters.f
  rw [if_pos (by omega)]
  rfl
theorem vok0 {t n : Int} {s : ByteArray} (ht : t = 0) : VOk t n s = decide (n = 0 ∧ s.size = 0) := by subst ht; simp [VOk]
theorem vok1 {t n : Int} {s : ByteArray} (ht : t = 1) : VOk t n s = decide (s.size = 0 ∧ -9999 ≤ n ∧ n ≤ 9999) := by subst ht; simp [VOk]
theorem vok2 {t n : Int} {s : ByteArray} (ht : t = 2) : VOk t n s = (decide (n = 0 ∧ s.size ≤ 6) && Low s) := by subst ht; simp [VOk]
theorem vok3 {t n : Int} {s : ByteArray} (ht : t = 3) : VOk t n s = decide (s.size = 0 ∧ 0 ≤ n ∧ n ≤ 1) := by subst ht; simp [VOk]
theorem vokx {t n : Int} {s : ByteArray} (h0 : ¬ t = 0) (h1 : ¬ t = 1) (h2 : ¬ t = 2) (h3 : ¬ t = 3) : VOk t n s = false := by simp [VOk, h0, h1, h2, h3]
theorem impl_ok (t n : Int) (s : ByteArray) : impl_Value_ok.f t n s = some (VOk t n s) := by
  unfold impl_Value_ok.f
  by_cases h0 : t = 0
  · rw [if_pos h0, vok0 h0, nil_beq]
    subst h0
    congr 1
    rw [Bool.eq_iff_iff]
    simp
  rw [if_neg h0]
  by_cases h1 : t = 1
  · rw [if_pos h1, vok1 h1]
    by_cases hs : s.size = 0
    · rw [if_pos ((nil_iff s).2 hs), between_eq]
      simp [hs]
    · rw [if_neg (fun h => hs ((nil_iff s).1 h))]
      simp [hs]
  rw [if_neg h1]
  by_cases h2 : t = 2
  · rw [if_pos h2, vok2 h2]
    by_cases hn : n = 0
    · rw [if_pos hn]
      by_cases hs : (s.size : Int) ≤ 6
      · rw [if_pos hs, letters_eq s (by omega)]
        have : s.size ≤ 6 := by omega
        simp [hn, this]
      · rw [if_neg hs]
        have : ¬ s.size ≤ 6 := by omega
        simp [this]
    · rw [if_neg hn]
      simp [hn]
  rw [if_neg h2]
  by_cases h3 : t = 3
  · rw [if_pos h3, vok3 h3]
    by_cases hs : s.size = 0
    · rw [if_pos ((nil_iff s).2 hs), between_eq]
      simp [hs]
    · rw [if_neg (fun h => hs ((nil_iff s).1 h))]
      simp [hs]
  · rw [if_neg h3, vokx h0 h1 h2 h3]
/-- What is known of a value. -/
theorem vok_cases {t n : Int} {s : ByteArray} (h : VOk t n s = true) :
    (t = 0 ∧ n = 0 ∧ s.size = 0) ∨ (t = 1 ∧ s.size = 0 ∧ -9999 ≤ n ∧ n ≤ 9999) ∨ (t = 2 ∧ n = 0 ∧ s.size ≤ 6 ∧ Low s = true) ∨ (t = 3 ∧ s.size = 0 ∧ 0 ≤ n ∧ n ≤ 1) := by
  simp only [VOk, Bool.or_eq_true, Bool.and_eq_true, decide_eq_true_eq] at h
  rcases h with ((h | h) | h) | h
  · exact .inl h
  · exact .inr (.inl h)
  · exact .inr (.inr (.inl ⟨h.1.1, h.1.2.1, h.1.2.2, h.2⟩))
  · exact .inr (.inr (.inr h))
theorem vok_size {t n : Int} {s : ByteArray} (h : VOk t n s = true) : s.size ≤ 6 := by
  rcases vok_cases h with h | h | h | h <;> omega
theorem vok_kind {t n : Int} {s : ByteArray} (h : VOk t n s = true) : 0 ≤ t ∧ t ≤ 3 := by
  rcases vok_cases h with h | h | h | h <;> omega
theorem vok_num {t n : Int} {s : ByteArray} (h : VOk t n s = true) : -9999 ≤ n ∧ n ≤ 9999 := by
  rcases vok_cases h with h | h | h | h <;> omega

end Go.Proofs.Ytkgnfbockgcdpaa.Pure
set_option linter.unusedVariables false
set_option linter.unusedSimpArgs false
namespace Go.Proofs.Ytkgnfbockgcdpaa.Pure
open Go.RowKit Go.Proofs.Ytkgnfbockgcdpaa.X Go.Proofs.YtkgnfbockgcdpaaV.PrintWords Go.Proofs.YtkgnfbockgcdpaaV.PrintLast Go.Proofs.YtkgnfbockgcdpaaV.PrintMore

theorem bt_nat (s : ByteArray) (i : Nat) (h : i < s.size) : bt s (i : Int) = ((s.data.toList.getD i 0).toNat : Int) := by
  have h1 : (i : Int).toNat < s.size := by omega
  rw [← bt_at s i h1]
  have h2 : i < s.data.toList.length := by rw [data_size]; exact h
  rw [List.getD_eq_getElem?_getD, List.getElem?_eq_getElem h2]
  rfl
theorem text_from (s : ByteArray) (hm : s.size ≤ 9223372036854775807) (d : Nat) : ∀ (k i : Nat), i + d = s.size → d < k →
    spec_l1Text.l0 k s (i : Int) = some (((s.data.toList.drop i).all fun c => decide (97 ≤ c.toNat ∧ c.toNat ≤ 122)) && decide (s.size ≤ 6)) := by
  induction d with
  | zero =>
    intro k i hi hk
    obtain ⟨k, rfl⟩ : ∃ m, k = m + 1 := ⟨k - 1, by omega⟩
    simp only [spec_l1Text.l0]
    rw [if_neg (by omega), List.drop_of_length_le (by rw [data_size]; omega)]
    congr 1
    rw [Bool.eq_iff_iff]
    simp
    omega
  | succ d ih =>
    intro k i hi hk
    obtain ⟨k, rfl⟩ : ∃ m, k = m + 1 := ⟨k - 1, by omega⟩
    have hl : i < s.data.toList.length := by rw [data_size]; omega
    simp only [spec_l1Text.l0]
    rw [if_pos (by omega), if_pos (by omega), bt_nat s i (by omega), List.drop_eq_getElem_cons hl, List.all_cons]
    have e : s.data.toList.getD i 0 = s.data.toList[i] := by rw [List.getD_eq_getElem?_getD, List.getElem?_eq_getElem hl]; rfl
    rw [e]
    generalize s.data.toList[i] = c
    by_cases h1 : (c.toNat : Int) < 97
    · rw [if_pos h1, decide_eq_false (by omega)]
      rfl
    · rw [if_neg h1]
      by_cases h2 : (c.toNat : Int) > 122
      · rw [if_pos h2, decide_eq_false (by omega)]
        rfl
      · rw [if_neg h2, decide_eq_true (by omega), Bool.true_and]
        have ew : wrap64 ((i : Int) + 1) = ((i + 1 : Nat) : Int) := by unfold wrap64; omega
        rw [ew]
        exact ih k (i + 1) (by omega) (by omega)
theorem text_eq (s : ByteArray) (hm : s.size ≤ maxLen) (k : Nat) (hk : s.size < k) : spec_l1Text.f k s = some (Low s && decide (s.size ≤ 6)) := by
  unfold spec_l1Text.f
  have := text_from s (by simpa [maxLen] using hm) s.size k 0 (by omega) hk
  rw [List.drop_zero] at this
  exact this
theorem spec_ok (t n : Int) (s : ByteArray) (hm : s.size ≤ maxLen) (k : Nat) (hk : s.size < k) : spec_ValueOk.f k t n s = some (VOk t n s) := by
  unfold spec_ValueOk.f
  by_cases h0 : t = 0
  · rw [if_pos h0, vok0 h0, nil_beq]
    by_cases hn : n = 0 <;> simp [hn]
  rw [if_neg h0]
  by_cases h1 : t = 1
  · rw [if_pos h1, vok1 h1, l1In_eq, nil_beq]
    by_cases hn : -9999 ≤ n ∧ n ≤ 9999 <;> simp [hn]
  rw [if_neg h1]
  by_cases h2 : t = 2
  · rw [if_pos h2, vok2 h2, text_eq s hm k hk]
    by_cases hn : n = 0 <;> simp [hn, Bool.and_comm]
  rw [if_neg h2]
  by_cases h3 : t = 3
  · rw [if_pos h3, vok3 h3, l1In_eq, nil_beq]
    by_cases hn : 0 ≤ n ∧ n ≤ 1 <;> simp [hn]
  · rw [if_neg h3, vokx h0 h1 h2 h3]

end Go.Proofs.Ytkgnfbockgcdpaa.Pure
set_option linter.unusedVariables false
set_option linter.unusedSimpArgs false
namespace Go.Proofs.Ytkgnfbockgcdpaa.Pure
open Go.RowKit Go.Proofs.Ytkgnfbockgcdpaa.X Go.Proofs.YtkgnfbockgcdpaaV.PrintWords Go.Proofs.YtkgnfbockgcdpaaV.PrintLast Go.Proofs.YtkgnfbockgcdpaaV.PrintMore

def upto (l : List Int) (n : Int) : List Int := l.takeWhile (fun c => decide (c ≤ n))
theorem upto_le (l : List Int) (n : Int) : ∀ x ∈ upto l n, x ≤ n := by
  intro x hx
  have := List.all_takeWhile (p := fun c => decide (c ≤ n)) (l := l)
  rw [List.all_eq_true] at this
  exact of_decide_eq_true (this x hx)
theorem upto_split (l : List Int) (n : Int) : l = upto l n ++ l.dropWhile (fun c => decide (c ≤ n)) := (List.takeWhile_append_dropWhile).symm
theorem upto_len (l : List Int) (n : Int) : (upto l n).length ≤ l.length := by
  have := congrArg List.length (upto_split l n)
  rw [List.length_append] at this
  omega
theorem rest_gt (l : List Int) (n : Int) (h : l.Pairwise (fun a b => a < b)) : ∀ x ∈ l.dropWhile (fun c => decide (c ≤ n)), n < x := by
  induction l with
  | nil => intro x hx; simp at hx
  | cons a t ih =>
    rw [List.pairwise_cons] at h
    intro x hx
    rw [List.dropWhile_cons] at hx
    by_cases ha : a ≤ n
    · rw [if_pos (decide_eq_true ha)] at hx
      exact ih h.2 x hx
    · rw [if_neg (fun g => ha (of_decide_eq_true g))] at hx
      rcases List.mem_cons.1 hx with g | g
      · omega
      · have := h.1 x g
        omega
theorem rise_pairwise {l : List Int} (h : ∀ j, j < l.length → GoodI l j) : l.Pairwise (fun a b => a < b) :=
  ((chain_iff 0 (fun x : Int => -9999 ≤ x ∧ x ≤ 9999) (fun a b => a < b) (fun a b c h h' => by omega) l).1 h).2
theorem below_eq (l : List Int) (n : Int) (h : l.Pairwise (fun a b => a < b)) (hl : l.length ≤ 1000000) : impl_below.f l n = some ((upto l n).length : Int) := by
  unfold impl_below.f
  rw [if_pos ⟨hl, rest_gt l n h⟩]
  rfl
theorem at_le (l : List Int) (n : Int) (j : Nat) (hj : j < (upto l n).length) : l.getD j 0 ≤ n := by
  have hs := upto_split l n
  rw [hs, List.getD_eq_getElem?_getD, List.getElem?_append_left hj, List.getElem?_eq_getElem hj]
  exact upto_le l n _ (List.getElem_mem hj)
theorem at_gt (l : List Int) (n : Int) (h : l.Pairwise (fun a b => a < b)) (j : Nat) (hj : (upto l n).length ≤ j) (hj' : j < l.length) : n < l.getD j 0 := by
  have hs := upto_split l n
  have hlen := congrArg List.length hs
  rw [List.length_append] at hlen
  rw [hs, List.getD_eq_getElem?_getD, List.getElem?_append_right hj, List.getElem?_eq_getElem (by omega)]
  exact rest_gt l n h _ (List.getElem_mem _)
theorem spec_part_loop (l : List Int) (hl : l.length ≤ 1000000) (h : l.Pairwise (fun a b => a < b)) (n : Int) (s : ByteArray) : ∀ d j, j + d = (upto l n).length → ∀ k, d + 1 ≤ k → spec_PartOf.l0 k l (j : Int) 1 n s = some ((upto l n).length : Int) := by
  intro d
  have hu := upto_len l n
  induction d with
  | zero =>
    intro j hj k hk
    obtain ⟨k, rfl⟩ : ∃ m, k = m + 1 := ⟨k - 1, by omega⟩
    have hj : j = (upto l n).length := by omega
    rw [spec_PartOf.l0]
    by_cases hlt : j < l.length
    · have := at_gt l n h j (by omega) hlt
      rw [if_pos (by omega), if_pos rfl, if_pos (by omega), rd_nat, if_neg (by omega), hj]
    · rw [if_neg (by omega), hj]
  | succ d ih =>
    intro j hj k hk
    obtain ⟨k, rfl⟩ : ∃ m, k = m + 1 := ⟨k - 1, by omega⟩
    have := at_le l n j (by omega)
    rw [spec_PartOf.l0, if_pos (by omega), if_pos rfl, if_pos (by omega), rd_nat, if_pos this, show wrap64 ((j : Int) + 1) = ((j + 1 : Nat) : Int) by rw [w64g (by omega)]; omega]
    exact ih (j + 1) (by omega) k (by omega)
theorem part_both (l : List Int) (hl : l.length ≤ 1048576) (t n : Int) (s : ByteArray) (hs : s.size ≤ maxLen) : ∃ r, (∀ k, l.length + s.size + 10 ≤ k → impl_PartOf.f k l t n s = some r ∧ spec_PartOf.f k l t n s = some r) ∧
    (r = -1 ∨ (t = 0 ∧ r = 0) ∨ (t = 1 ∧ r = ((upto l n).length : Int) ∧ l.Pairwise (fun a b => a < b))) := by
  obtain ⟨b, hb, hb'⟩ := spec_cuts l (by omega)
  obtain ⟨c, hc, hc'⟩ := impl_cuts l (by omega)
  have e : c = b := by rw [Bool.eq_iff_iff, hb', hc']
  subst e
  have hu := upto_len l n
  have ji : ∀ k, impl_PartOf.j0 (k + 1) l true t n s = some (-1) := fun k => by rw [impl_PartOf.j0, if_pos rfl]
  have js : ∀ k, spec_PartOf.j0 (k + 1) l true t n s = some (-1) := fun k => by rw [spec_PartOf.j0, if_pos rfl]
  by_cases h1 : c = true
  · have hp := rise_pairwise (hb'.1 h1).1
    have h5 := (hb'.1 h1).2
    by_cases h2 : VOk t n s = true
    · by_cases h3 : t = 0
      · refine ⟨0, fun k hk => ?_, Or.inr (Or.inl ⟨h3, rfl⟩)⟩
        obtain ⟨k, rfl⟩ : ∃ m, k = m + 1 + 1 := ⟨k - 2, by omega⟩
        constructor
        · unfold impl_PartOf.f
          rw [hc _ (by omega), Option.bind_some, if_pos h1, impl_ok, Option.bind_some, h2, impl_PartOf.j0, if_neg (by decide), if_pos h3]
        · unfold spec_PartOf.f
          rw [hb _ (by omega), Option.bind_some, if_pos h1, spec_ok _ _ _ hs _ (by omega), Option.bind_some, if_pos h2, if_neg (by omega), show (t != 0) = false by rw [h3]; rfl, spec_PartOf.j0, if_neg (by decide), spec_PartOf.l0]
          by_cases hl0 : (0 : Int) < (l.length : Int)
          · rw [if_pos hl0, if_neg (by omega)]
          · rw [if_neg hl0]
      · by_cases h4 : t = 1
        · refine ⟨((upto l n).length : Int), fun k hk => ?_, Or.inr (Or.inr ⟨h4, rfl, hp⟩)⟩
          obtain ⟨k, rfl⟩ : ∃ m, k = m + 1 + 1 := ⟨k - 2, by omega⟩
          constructor
          · unfold impl_PartOf.f
            rw [hc _ (by omega), Option.bind_some, if_pos h1, impl_ok, Option.bind_some, h2, impl_PartOf.j0, if_neg (by decide), if_neg h3, if_pos h4, below_eq l n hp (by omega), Option.bind_some]
          · unfold spec_PartOf.f
            rw [hb _ (by omega), Option.bind_some, if_pos h1, spec_ok _ _ _ hs _ (by omega), Option.bind_some, if_pos h2, if_pos h4, spec_PartOf.j0, if_neg (by decide), h4]
            exact spec_part_loop l (by omega) hp n s (upto l n).length 0 (by omega) _ (by omega)
        · refine ⟨-1, fun k hk => ?_, Or.inl rfl⟩
          obtain ⟨k, rfl⟩ : ∃ m, k = m + 1 + 1 := ⟨k - 2, by omega⟩
          constructor
          · unfold impl_PartOf.f
            rw [hc _ (by omega), Option.bind_some, if_pos h1, impl_ok, Option.bind_some, h2, impl_PartOf.j0, if_neg (by decide), if_neg h3, if_neg h4]
          · unfold spec_PartOf.f
            rw [hb _ (by omega), Option.bind_some, if_pos h1, spec_ok _ _ _ hs _ (by omega), Option.bind_some, if_pos h2, if_neg h4, bne_iff_ne.2 h3, js]
    · refine ⟨-1, fun k hk => ?_, Or.inl rfl⟩
      obtain ⟨k, rfl⟩ : ∃ m, k = m + 1 + 1 := ⟨k - 2, by omega⟩
      constructor
      · unfold impl_PartOf.f
        rw [hc _ (by omega), Option.bind_some, if_pos h1, impl_ok, Option.bind_some, (Bool.not_eq_true _).mp h2]
        exact ji _
      · unfold spec_PartOf.f
        rw [hb _ (by omega), Option.bind_some, if_pos h1, spec_ok _ _ _ hs _ (by omega), Option.bind_some, if_neg h2, js]
  · refine ⟨-1, fun k hk => ?_, Or.inl rfl⟩
    obtain ⟨k, rfl⟩ : ∃ m, k = m + 1 + 1 := ⟨k - 2, by omega⟩
    constructor
    · unfold impl_PartOf.f
      rw [hc _ (by omega), Option.bind_some, if_neg h1, ji]
    · unfold spec_PartOf.f
      rw [hb _ (by omega), Option.bind_some, if_neg h1, js]

end Go.Proofs.Ytkgnfbockgcdpaa.Pure
set_option linter.unusedVariables false
set_option linter.unusedSimpArgs false
namespace Go.Proofs.Ytkgnfbockgcdpaa.Pure
open Go.RowKit Go.Proofs.Ytkgnfbockgcdpaa.X Go.Proofs.YtkgnfbockgcdpaaV.PrintWords Go.Proofs.YtkgnfbockgcdpaaV.PrintLast Go.Proofs.YtkgnfbockgcdpaaV.PrintMore

def pick (P : Nat → Bool) (n : Nat) : List Int := ((List.range n).filter P).map Int.ofNat
theorem pick_succ (P : Nat → Bool) (n : Nat) : pick P (n + 1) = if P n = true then pick P n ++ [(n : Int)] else pick P n := by
  unfold pick
  rw [List.range_succ, List.filter_append]
  by_cases h : P n = true
  · rw [if_pos h, List.map_append]
    simp [h]
  · rw [if_neg h]
    simp [h]
theorem pick_len (P : Nat → Bool) (n : Nat) : (pick P n).length ≤ n := by
  unfold pick
  rw [List.length_map]
  exact Nat.le_trans (List.length_filter_le _ _) (by rw [List.length_range]; exact Nat.le_refl _)
theorem pick_none (P : Nat → Bool) (n : Nat) (h : ∀ j, j < n → P j = false) : pick P n = [] := by
  unfold pick
  rw [List.filter_eq_nil_iff.2 (fun a ha => by rw [h a (List.mem_range.1 ha)]; decide)]
  rfl
theorem pick_more (P : Nat → Bool) (n m : Nat) (hnm : n ≤ m) (h : ∀ j, n ≤ j → j < m → P j = false) : pick P m = pick P n := by
  obtain ⟨d, rfl⟩ := Nat.le.dest hnm
  clear hnm
  induction d with
  | zero => rfl
  | succ d ih =>
    rw [show n + (d + 1) = (n + d) + 1 from rfl, pick_succ, if_neg (by rw [h (n + d) (by omega) (by omega)]; decide)]
    exact ih (fun j hj hj' => h j hj (by omega))
theorem pick_congr (P Q : Nat → Bool) (n : Nat) (h : ∀ j, j < n → P j = Q j) : pick P n = pick Q n := by
  induction n with
  | zero => rfl
  | succ n ih =>
    rw [pick_succ, pick_succ, ih (fun j hj => h j (by omega)), h n (by omega)]
theorem gather {α : Type} (F : Nat → List Int → Int → Option α) (P : Nat → Bool) (lo n : Nat) (hlo : lo ≤ n) (fin : List Int → Option α)
    (h1 : ∀ k j, lo ≤ j → j < n → F (k + 1) (pick P j) (j : Int) = F k (if P j = true then pick P j ++ [(j : Int)] else pick P j) ((j + 1 : Nat) : Int))
    (h3 : ∀ k, F (k + 1) (pick P n) (n : Int) = fin (pick P n)) : ∀ k, n + 1 ≤ k → F k (pick P lo) (lo : Int) = fin (pick P n) := by
  have main : ∀ d j, j + d = n → lo ≤ j → ∀ k, d + 1 ≤ k → F k (pick P j) (j : Int) = fin (pick P n) := by
    intro d
    induction d with
    | zero =>
      intro j hj _ k hk
      have hj : j = n := by omega
      subst hj
      obtain ⟨k, rfl⟩ : ∃ m, k = m + 1 := ⟨k - 1, by omega⟩
      exact h3 k
    | succ d ih =>
      intro j hj hlj k hk
      obtain ⟨k, rfl⟩ : ∃ m, k = m + 1 := ⟨k - 1, by omega⟩
      rw [h1 k j hlj (by omega), ← pick_succ]
      exact ih (j + 1) (by omega) (by omega) k (by omega)
  intro k hk
  exact main (n - lo) lo (by omega) (Nat.le_refl _) k (by omega)
def markI (v : Int) (n : Nat) : List Int := (List.range n).map (fun i => v + Int.ofNat i)
theorem markI_len (v : Int) (n : Nat) : (markI v n).length = n := by unfold markI; rw [List.length_map, List.length_range]
theorem markI_at (v : Int) (n j : Nat) (hj : j < n) (d : Int) : (markI v n).getD j d = v + (j : Int) := by
  unfold markI
  rw [List.getD_eq_getElem?_getD, List.getElem?_map, List.getElem?_range hj]
  rfl
theorem markI_ok (l : List Int) (hl : l.length ≤ 10000000) (v : Int) (h0 : 0 ≤ v) (h1 : v ≤ 100000000) : ∀ k, l.length + 1 ≤ k → laws_markIntS.f k l v = some (v + l.length, markI v l.length) := by
  have main : ∀ e i, i + e = l.length → ∀ k, e + 1 ≤ k → laws_markIntS.l0 k ((markI v l.length).take i ++ l.drop i) (v + i) (i : Int) = some (v + l.length, markI v l.length) := by
    intro e
    induction e with
    | zero =>
      intro i hi k hk
      have hi : i = l.length := by omega
      subst hi
      obtain ⟨k, rfl⟩ : ∃ m, k = m + 1 := ⟨k - 1, by omega⟩
      have hz : ((markI v l.length).take l.length ++ l.drop l.length) = markI v l.length := by
        rw [List.drop_of_length_le (Nat.le_refl _), List.append_nil, List.take_of_length_le (by rw [markI_len]; omega)]
      rw [hz, laws_markIntS.l0, if_neg (by rw [markI_len]; omega)]
    | succ e ih =>
      intro i hi k hk
      obtain ⟨k, rfl⟩ : ∃ m, k = m + 1 := ⟨k - 1, by omega⟩
      have hi' : i < l.length := by omega
      have hi2 : i < (markI v l.length).length := by rw [markI_len]; exact hi'
      have hlt : ((markI v l.length).take i).length = i := by rw [List.length_take, markI_len]; omega
      have hlen : ((markI v l.length).take i ++ l.drop i).length = l.length := by
        rw [List.length_append, hlt, List.length_drop]
        omega
      rw [laws_markIntS.l0, if_pos (by omega), if_pos (by omega), Int.toNat_natCast, w64g (n := v + (i : Int) + 1) (by omega), show wrap64 ((i : Int) + 1) = ((i + 1 : Nat) : Int) by rw [w64g (by omega)]; omega, List.set_append_right _ _ (by omega), hlt, Nat.sub_self, List.drop_eq_getElem_cons hi', List.set_cons_zero]
      have := ih (i + 1) (by omega) k (by omega)
      have em : (markI v l.length)[i] = v + (i : Int) := by
        have h1 := markI_at v l.length i hi' 0
        rw [List.getD_eq_getElem?_getD, List.getElem?_eq_getElem hi2] at h1
        exact h1
      rw [List.take_succ_eq_append_getElem hi2, List.append_assoc, em] at this
      rw [show v + (i : Int) + 1 = v + ((i + 1 : Nat) : Int) by omega]
      exact this
  intro k hk
  have := main l.length 0 (by omega) k hk
  rw [List.take_zero, List.drop_zero, List.nil_append] at this
  unfold laws_markIntS.f
  simpa using this
theorem heldI_ok (n : Nat) (hn : n ≤ 10000000) (v : Int) (h0 : 0 ≤ v) (h1 : v ≤ 100000000) : ∀ k, n + 1 ≤ k → laws_heldIntS.f k (markI v n) v = some (v + n) := by
  intro k hk
  have := go_all (fun k i => laws_heldIntS.l0 k (markI v n) (v + i) i) n 0 1 (v + n) ?_ ?_ k (by omega)
  · unfold laws_heldIntS.f
    simpa using this
  · intro k j _ hj
    show laws_heldIntS.l0 (k + 1) (markI v n) (v + (j : Int)) (j : Int) = _
    have hr : rd (markI v n) (j : Int) = v + (j : Int) := markI_at v n j hj _
    rw [laws_heldIntS.l0, if_pos (by rw [markI_len]; omega), if_pos (by omega), hr, if_pos rfl, w64g (n := v + (j : Int) + 1) (by omega), show wrap64 ((j : Int) + 1) = ((j + 1 : Nat) : Int) by rw [w64g (by omega)]; omega, show v + (j : Int) + 1 = v + ((j + 1 : Nat) : Int) by omega]
  · intro k _
    show laws_heldIntS.l0 (k + 1) (markI v n) (v + (n : Int)) (n : Int) = _
    rw [laws_heldIntS.l0, if_neg (by rw [markI_len]; omega)]

end Go.Proofs.Ytkgnfbockgcdpaa.Pure
set_option linter.unusedVariables false
set_option linter.unusedSimpArgs false
namespace Go.Proofs.Ytkgnfbockgcdpaa.Pure
open Go.RowKit Go.Proofs.Ytkgnfbockgcdpaa.X Go.Proofs.YtkgnfbockgcdpaaV.PrintWords Go.Proofs.YtkgnfbockgcdpaaV.PrintLast Go.Proofs.YtkgnfbockgcdpaaV.PrintMore

def inPart (kd : Int) (at_ below : Nat) (j : Nat) : Bool := decide (kd = 2 ∨ (kd = 1 ∧ j = at_) ∨ (kd = 3 ∧ j ≤ below) ∨ (kd = 4 ∧ j ≤ at_))
theorem num_eq (n : Int) : impl_numOk.f n = some (decide (-9999 ≤ n ∧ n ≤ 9999)) := by
  unfold impl_numOk.f
  rw [between_eq, Option.bind_some]
theorem sp_l2 (l : List Int) (hl : l.length ≤ 4) (kd : Int) (hk0 : 1 ≤ kd ∧ kd ≤ 4) (a b : Nat) : ∀ k, l.length + 2 ≤ k → spec_PartsFor.l2 k l kd [] (a : Int) (b : Int) 0 = some (pick (inPart kd a b) (l.length + 1)) := by
  have hp0 : pick (inPart kd a b) 0 = [] := rfl
  have hw : ∀ j : Nat, j < l.length + 1 → wrap64 ((j : Int) + 1) = ((j + 1 : Nat) : Int) := fun j hj => by rw [w64g (by omega)]; omega
  have hlen : ∀ j : Nat, j < l.length + 1 → (pick (inPart kd a b) j).length < 17592186044416 := fun j hj => by have := pick_len (inPart kd a b) j; omega
  intro k hk
  have := gather (fun k x i => spec_PartsFor.l2 k l kd x (a : Int) (b : Int) i) (inPart kd a b) 0 (l.length + 1) (Nat.zero_le _) (fun x => some x) ?_ ?_ k (by omega)
  · rw [hp0] at this
    exact this
  · intro k j _ hj
    have hw := hw j hj
    have hlen := hlen j hj
    show spec_PartsFor.l2 (k + 1) l kd (pick (inPart kd a b) j) (a : Int) (b : Int) (j : Int) = spec_PartsFor.l2 k l kd (if inPart kd a b j = true then pick (inPart kd a b) j ++ [(j : Int)] else pick (inPart kd a b) j) (a : Int) (b : Int) ((j + 1 : Nat) : Int)
    generalize pick (inPart kd a b) j = L at hlen ⊢
    rw [spec_PartsFor.l2, if_pos (show (j : Int) ≤ (l.length : Int) by omega), hw, if_pos hlen]
    have hc : kd = 1 ∨ kd = 2 ∨ kd = 3 ∨ kd = 4 := by omega
    unfold inPart
    rcases hc with rfl | rfl | rfl | rfl
    · by_cases h : j = a
      · have h' : (j : Int) = (a : Int) := by omega
        simp [h, h']
      · have h' : ¬ (j : Int) = (a : Int) := by omega
        simp [h, h']
    · simp
    · by_cases h : j ≤ b
      · have h' : (j : Int) ≤ (b : Int) := by omega
        simp [h, h']
      · have h' : ¬ (j : Int) ≤ (b : Int) := by omega
        simp [h, h']
    · by_cases h : j ≤ a
      · have h' : (j : Int) ≤ (a : Int) := by omega
        simp [h, h']
      · have h' : ¬ (j : Int) ≤ (a : Int) := by omega
        simp [h, h']
  · intro k
    show spec_PartsFor.l2 (k + 1) l kd _ (a : Int) (b : Int) ((l.length + 1 : Nat) : Int) = _
    rw [spec_PartsFor.l2, if_neg (by omega)]
theorem sp_l1 (l : List Int) (hl : l.length ≤ 4) (h : l.Pairwise (fun a b => a < b)) (kd n : Int) (a : Nat) (R : List Int) (K : Nat) (hR : ∀ k, K ≤ k → spec_PartsFor.j4 k l kd [] (a : Int) ((upto l (n - 1)).length : Int) = some R) :
    ∀ d j, j + d = (upto l (n - 1)).length → ∀ k, K + d + 1 ≤ k → spec_PartsFor.l1 k l kd n [] (a : Int) (j : Int) = some R := by
  intro d
  have hu := upto_len l (n - 1)
  induction d with
  | zero =>
    intro j hj k hk
    obtain ⟨k, rfl⟩ : ∃ m, k = m + 1 := ⟨k - 1, by omega⟩
    have hj : j = (upto l (n - 1)).length := by omega
    rw [spec_PartsFor.l1]
    by_cases hlt : j < l.length
    · have := at_gt l (n - 1) h j (by omega) hlt
      rw [if_pos (by omega), if_pos (by omega), rd_nat, if_neg (by omega), hj]
      exact hR k (by omega)
    · rw [if_neg (by omega), hj]
      exact hR k (by omega)
  | succ d ih =>
    intro j hj k hk
    obtain ⟨k, rfl⟩ : ∃ m, k = m + 1 := ⟨k - 1, by omega⟩
    have := at_le l (n - 1) j (by omega)
    rw [spec_PartsFor.l1, if_pos (by omega), if_pos (by omega), rd_nat, if_pos (by omega), show wrap64 ((j : Int) + 1) = ((j + 1 : Nat) : Int) by rw [w64g (by omega)]; omega]
    exact ih (j + 1) (by omega) k (by omega)
theorem sp_l0 (l : List Int) (hl : l.length ≤ 4) (h : l.Pairwise (fun a b => a < b)) (kd n : Int) (R : List Int) (K : Nat) (hR : ∀ k, K ≤ k → spec_PartsFor.j2 k l kd n [] ((upto l n).length : Int) 0 = some R) :
    ∀ d j, j + d = (upto l n).length → ∀ k, K + d + 1 ≤ k → spec_PartsFor.l0 k l kd n [] (j : Int) 0 = some R := by
  intro d
  have hu := upto_len l n
  induction d with
  | zero =>
    intro j hj k hk
    obtain ⟨k, rfl⟩ : ∃ m, k = m + 1 := ⟨k - 1, by omega⟩
    have hj : j = (upto l n).length := by omega
    rw [spec_PartsFor.l0]
    by_cases hlt : j < l.length
    · have := at_gt l n h j (by omega) hlt
      rw [if_pos (by omega), if_pos (by omega), rd_nat, if_neg (by omega), hj]
      exact hR k (by omega)
    · rw [if_neg (by omega), hj]
      exact hR k (by omega)
  | succ d ih =>
    intro j hj k hk
    obtain ⟨k, rfl⟩ : ∃ m, k = m + 1 := ⟨k - 1, by omega⟩
    have := at_le l n j (by omega)
    rw [spec_PartsFor.l0, if_pos (by omega), if_pos (by omega), rd_nat, if_pos (by omega), show wrap64 ((j : Int) + 1) = ((j + 1 : Nat) : Int) by rw [w64g (by omega)]; omega]
    exact ih (j + 1) (by omega) k (by omega)
theorem im_j1 (lo hi : Nat) (hlo : lo ≤ hi + 1) (hhi : hi ≤ 4) : ∀ k, hi + 3 ≤ k → impl_PartsFor.j1 k (lo : Int) (hi : Int) = some (pick (fun j => decide (lo ≤ j ∧ j ≤ hi)) (hi + 1)) := by
  intro k hk
  obtain ⟨k, rfl⟩ : ∃ m, k = m + 1 := ⟨k - 1, by omega⟩
  obtain ⟨P, hP⟩ : ∃ P : Nat → Bool, P = fun j => decide (lo ≤ j ∧ j ≤ hi) := ⟨_, rfl⟩
  rw [← hP, impl_PartsFor.j1]
  have hp0 : pick P lo = [] := pick_none _ _ (fun j hj => by rw [hP]; exact decide_eq_false (by omega))
  have := gather (fun k x i => impl_PartsFor.l0 k (hi : Int) x i) P lo (hi + 1) hlo (fun x => (impl_clone_int.f x).bind fun t => some t) ?_ ?_ k (by omega)
  · rw [hp0] at this
    rw [show impl_PartsFor.l0 k (hi : Int) [] (lo : Int) = _ from this]
    have hl := pick_len P (hi + 1)
    unfold impl_clone_int.f
    rw [if_pos (by omega), Option.bind_some]
  · intro k j hj hj'
    have hl := pick_len P j
    have hPj : P j = true := by rw [hP]; exact decide_eq_true (by omega)
    show impl_PartsFor.l0 (k + 1) (hi : Int) (pick P j) (j : Int) = impl_PartsFor.l0 k (hi : Int) (if P j = true then _ else _) ((j + 1 : Nat) : Int)
    rw [if_pos hPj, impl_PartsFor.l0, if_pos (by omega), if_pos (by omega), show wrap64 ((j : Int) + 1) = ((j + 1 : Nat) : Int) by rw [w64g (by omega)]; omega]
  · intro k
    show impl_PartsFor.l0 (k + 1) (hi : Int) _ ((hi + 1 : Nat) : Int) = _
    rw [impl_PartsFor.l0, if_neg (by omega)]
theorem parts_both (l : List Int) (hl : l.length ≤ 1048576) (kd n : Int) : ∃ r, (∀ k, l.length + 50 ≤ k → impl_PartsFor.f k l kd n = some r ∧ spec_PartsFor.f k l kd n = some r) ∧ r.length ≤ 5 := by
  obtain ⟨b, hb, hb'⟩ := spec_cuts l (by omega)
  obtain ⟨c, hc, hc'⟩ := impl_cuts l (by omega)
  have e : c = b := by rw [Bool.eq_iff_iff, hb', hc']
  subst e
  by_cases hg : c = true ∧ (-9999 ≤ n ∧ n ≤ 9999) ∧ (1 ≤ kd ∧ kd ≤ 4)
  · obtain ⟨h1, h2, h3⟩ := hg
    have hp := rise_pairwise (hb'.1 h1).1
    have h5 := (hb'.1 h1).2
    have ha := upto_len l n
    have hbl := upto_len l (n - 1)
    refine ⟨pick (inPart kd (upto l n).length (upto l (n - 1)).length) (l.length + 1), fun k hk => ⟨?_, ?_⟩, by have := pick_len (inPart kd (upto l n).length (upto l (n - 1)).length) (l.length + 1); omega⟩
    · obtain ⟨k, rfl⟩ : ∃ m, k = m + 1 := ⟨k - 1, by omega⟩
      unfold impl_PartsFor.f
      rw [hc _ (by omega), Option.bind_some, if_pos h1, num_eq, Option.bind_some, decide_eq_true h2, impl_PartsFor.j0, if_neg (by decide)]
      have ew : wrap64 (n - 1) = n - 1 := w64g (by omega)
      have hcase : kd = 1 ∨ kd = 2 ∨ kd = 3 ∨ kd = 4 := by omega
      have hb1 := below_eq l n hp (by omega)
      have hb2 := below_eq l (n - 1) hp (by omega)
      generalize (upto l n).length = a at *
      generalize (upto l (n - 1)).length = b at *
      rcases hcase with rfl | rfl | rfl | rfl
      · rw [if_pos rfl, hb1, Option.bind_some, Option.bind_some, im_j1 a a (by omega) (by omega) k (by omega)]
        congr 1
        rw [← pick_more _ (a + 1) (l.length + 1) (by omega) (fun j hj _ => decide_eq_false (by omega))]
        exact pick_congr _ _ _ (fun j hj => by unfold inPart; rw [decide_eq_decide]; omega)
      · rw [if_neg (by decide), if_pos rfl, show (0 : Int) = ((0 : Nat) : Int) from rfl, im_j1 0 l.length (by omega) (by omega) k (by omega)]
        congr 1
        exact pick_congr _ _ _ (fun j hj => by unfold inPart; rw [decide_eq_decide]; omega)
      · rw [if_neg (by decide), if_neg (by decide), if_pos rfl, ew, hb2, Option.bind_some, show (0 : Int) = ((0 : Nat) : Int) from rfl, im_j1 0 b (by omega) (by omega) k (by omega)]
        congr 1
        rw [← pick_more _ (b + 1) (l.length + 1) (by omega) (fun j hj _ => decide_eq_false (by omega))]
        exact pick_congr _ _ _ (fun j hj => by unfold inPart; rw [decide_eq_decide]; omega)
      · rw [if_neg (by decide), if_neg (by decide), if_neg (by decide), if_pos rfl, hb1, Option.bind_some, show (0 : Int) = ((0 : Nat) : Int) from rfl, im_j1 0 a (by omega) (by omega) k (by omega)]
        congr 1
        rw [← pick_more _ (a + 1) (l.length + 1) (by omega) (fun j hj _ => decide_eq_false (by omega))]
        exact pick_congr _ _ _ (fun j hj => by unfold inPart; rw [decide_eq_decide]; omega)
    · obtain ⟨k, rfl⟩ : ∃ m, k = m + 1 := ⟨k - 1, by omega⟩
      unfold spec_PartsFor.f
      rw [Option.bind_some, hb _ (by omega), Option.bind_some, if_pos h1, l1In_eq, Option.bind_some, decide_eq_true h2, if_pos rfl, l1In_eq, Option.bind_some, decide_eq_true h3, spec_PartsFor.j0, if_neg (by decide)]
      refine sp_l0 l h5 hp kd n _ 20 (fun k hk => ?_) (upto l n).length 0 (by omega) k (by omega)
      obtain ⟨k, rfl⟩ : ∃ m, k = m + 1 := ⟨k - 1, by omega⟩
      rw [spec_PartsFor.j2]
      refine sp_l1 l h5 hp kd n (upto l n).length _ 8 (fun k hk => ?_) (upto l (n - 1)).length 0 (by omega) k (by omega)
      obtain ⟨k, rfl⟩ : ∃ m, k = m + 1 := ⟨k - 1, by omega⟩
      rw [spec_PartsFor.j4]
      exact sp_l2 l h5 kd h3 _ _ k (by omega)
  · refine ⟨[], fun k hk => ⟨?_, ?_⟩, by decide⟩
    · obtain ⟨k, rfl⟩ : ∃ m, k = m + 1 := ⟨k - 1, by omega⟩
      have ji : impl_PartsFor.j0 (k + 1) l kd n true = some [] := by rw [impl_PartsFor.j0, if_pos rfl]
      unfold impl_PartsFor.f
      rw [hc _ (by omega), Option.bind_some]
      by_cases h1 : c = true
      · rw [if_pos h1, num_eq, Option.bind_some]
        by_cases h2 : -9999 ≤ n ∧ n ≤ 9999
        · have h3 : ¬ (1 ≤ kd ∧ kd ≤ 4) := fun h3 => hg ⟨h1, h2, h3⟩
          rw [decide_eq_true h2, impl_PartsFor.j0, if_neg (by decide), if_neg (by omega), if_neg (by omega), if_neg (by omega), if_neg (by omega)]
        · rw [decide_eq_false h2]
          exact ji
      · rw [if_neg h1, ji]
    · obtain ⟨k, rfl⟩ : ∃ m, k = m + 1 := ⟨k - 1, by omega⟩
      have js : spec_PartsFor.j0 (k + 1) l kd n [] true = some [] := by rw [spec_PartsFor.j0, if_pos rfl]
      unfold spec_PartsFor.f
      rw [Option.bind_some, hb _ (by omega), Option.bind_some]
      by_cases h1 : c = true
      · rw [if_pos h1, l1In_eq, Option.bind_some]
        by_cases h2 : -9999 ≤ n ∧ n ≤ 9999
        · rw [decide_eq_true h2, if_pos rfl, l1In_eq, Option.bind_some, decide_eq_false (fun h3 => hg ⟨h1, h2, h3⟩)]
          exact js
        · rw [decide_eq_false h2, if_neg (by decide), js]
      · rw [if_neg h1, js]

end Go.Proofs.Ytkgnfbockgcdpaa.Pure
set_option linter.unusedVariables false
set_option linter.unusedSimpArgs false
namespace Go.Proofs.Ytkgnfbockgcdpaa.Pure
open Go.RowKit Go.Proofs.Ytkgnfbockgcdpaa.X Go.Proofs.YtkgnfbockgcdpaaV.PrintWords Go.Proofs.YtkgnfbockgcdpaaV.PrintLast Go.Proofs.YtkgnfbockgcdpaaV.PrintMore

theorem FnExactPartsFor : laws_FnExactPartsFor.Pure := by
  intro l kd n hl _ _
  obtain ⟨K, hK⟩ : ∃ K, l.length + 1000 ≤ K := ⟨_, Nat.le_refl _⟩
  refine ⟨K + 1, ?_⟩
  unfold laws_FnExactPartsFor.f
  by_cases h : (l.length : Int) > 1048576
  · rw [if_pos h]
  obtain ⟨r, hr, hrl⟩ := parts_both l (by omega) kd n
  have tl : ∀ k, K ≤ k → laws_toIntS.f k l = some l := fun k hk => toIntS_eq l (by omega) k (by omega)
  have er : ∀ k, K ≤ k → laws_eqIntS.f k r r = some true := fun k hk => eqIntS_eq r (by omega) k (by omega)
  rw [if_neg h, tl _ (by omega), Option.bind_some, (hr _ (by omega)).2, Option.bind_some, Option.bind_some, (hr _ (by omega)).1, Option.bind_some, er _ (by omega), Option.bind_some, if_pos rfl, Option.bind_some, eqIntS_eq l (by omega) _ (by omega), Option.bind_some, if_pos rfl, markI_ok l (by omega) 1 (by decide) (by decide) _ (by omega), Option.bind_some, if_neg (by omega), Option.bind_some, laws_FnExactPartsFor.j0, if_neg (by decide), markI_ok r (by omega) 1 (by decide) (by decide) _ (by omega), Option.bind_some]
  show ((laws_heldIntS.f K (markI 1 r.length) 1).bind _) = _
  rw [heldI_ok r.length (by omega) 1 (by decide) (by decide) K (by omega), Option.bind_some, if_neg (by omega), if_pos rfl, tl K (by omega), Option.bind_some, (hr K (by omega)).1, Option.bind_some, er K (by omega), Option.bind_some, if_pos rfl, Option.bind_some, if_neg (by omega), if_pos rfl]

end Go.Proofs.Ytkgnfbockgcdpaa.Pure
