/- The program's CutMore returns what the reference's returns, for all arguments; no condition. -/
import Derived.Test.YtalhkihppcjanaaVMore
import Derived.Test.YtalhkihppcjanaaX0
import Derived.Test.YtalhkihppcjanaaZFnExactCutMore2
set_option linter.unusedVariables false
set_option linter.unusedSimpArgs false
namespace Go.Proofs.Ytalhkihppcjanaa.Pure
open Go.RowKit Go.Proofs.YtalhkihppcjanaaV.PrintWords Go.Proofs.YtalhkihppcjanaaV.PrintLast Go.Proofs.YtalhkihppcjanaaV.PrintMore

theorem w64g {n : Int} (h : -9223372036854775808 ≤ n ∧ n ≤ 9223372036854775807) : wrap64 n = n := by unfold wrap64; omega
theorem scan_all (F : Nat → Int → Option Bool) (n K : Nat) (G : Nat → Prop) (fin : Bool)
    (h1 : ∀ k j, K ≤ k → j < n → G j → F (k + 1) (j : Int) = F k ((j + 1 : Nat) : Int))
    (h2 : ∀ k j, K ≤ k → j < n → ¬ G j → F (k + 1) (j : Int) = some false)
    (h3 : ∀ k, K ≤ k → F (k + 1) (n : Int) = some fin) :
    ∃ b, (∀ k, n + 1 + K ≤ k → F k 0 = some b) ∧ (b = true ↔ ((∀ j, j < n → G j) ∧ fin = true)) := by
  have main : ∀ d i, i + d = n → ∃ b, (∀ k, d + 1 + K ≤ k → F k (i : Int) = some b) ∧ (b = true ↔ ((∀ j, i ≤ j → j < n → G j) ∧ fin = true)) := by
    intro d
    induction d with
    | zero =>
      intro i hi
      have hi : i = n := by omega
      subst hi
      refine ⟨fin, fun k hk => ?_, ⟨fun h => ⟨fun j h1 h2 => by omega, h⟩, fun h => h.2⟩⟩
      obtain ⟨k, rfl⟩ : ∃ m, k = m + 1 := ⟨k - 1, by omega⟩
      exact h3 k (by omega)
    | succ d ih =>
      intro i hi
      by_cases g : G i
      · obtain ⟨b, hb, hb'⟩ := ih (i + 1) (by omega)
        refine ⟨b, fun k hk => ?_, ?_⟩
        · obtain ⟨k, rfl⟩ : ∃ m, k = m + 1 := ⟨k - 1, by omega⟩
          rw [h1 k i (by omega) (by omega) g]
          exact hb k (by omega)
        · rw [hb']
          constructor
          · intro h
            refine ⟨fun j hj hj' => ?_, h.2⟩
            by_cases e : j = i
            · rw [e]; exact g
            · exact h.1 j (by omega) hj'
          · intro h
            exact ⟨fun j hj hj' => h.1 j (by omega) hj', h.2⟩
      · refine ⟨false, fun k hk => ?_, ?_⟩
        · obtain ⟨k, rfl⟩ : ∃ m, k = m + 1 := ⟨k - 1, by omega⟩
          exact h2 k i (by omega) (by omega) g
        · constructor
          · intro h
            cases h
          · intro h
            exact absurd (h.1 i (Nat.le_refl _) (by omega)) g
  obtain ⟨b, hb, hb'⟩ := main n 0 (by omega)
  refine ⟨b, hb, ?_⟩
  rw [hb']
  constructor
  · intro h; exact ⟨fun j hj => h.1 j (by omega) hj, h.2⟩
  · intro h; exact ⟨fun j _ hj => h.1 j hj, h.2⟩
theorem go_all {α : Type} (F : Nat → Int → Option α) (n K c : Nat) (r : α)
    (h1 : ∀ k j, K ≤ k → j < n → F (k + c) (j : Int) = F k ((j + 1 : Nat) : Int))
    (h3 : ∀ k, K ≤ k → F (k + c) (n : Int) = some r) : ∀ k, K + c * (n + 1) ≤ k → F k 0 = some r := by
  have main : ∀ d i, i + d = n → ∀ k, K + c * (d + 1) ≤ k → F k (i : Int) = some r := by
    intro d
    induction d with
    | zero =>
      intro i hi k hk
      have hi : i = n := by omega
      subst hi
      obtain ⟨k, rfl⟩ : ∃ m, k = m + c := ⟨k - c, by omega⟩
      exact h3 k (by omega)
    | succ d ih =>
      intro i hi k hk
      have e : c * (d + 1 + 1) = c * (d + 1) + c := Nat.mul_succ _ _
      obtain ⟨k, rfl⟩ : ∃ m, k = m + c := ⟨k - c, by omega⟩
      rw [h1 k i (by omega) (by omega)]
      exact ih (i + 1) (by omega) k (by omega)
  exact main n 0 (by omega)
theorem copy_all {β : Type} (F : Nat → List β → Int → Option (List β)) (L : List β) (x0 : List β) (hx : x0.length = L.length) (d : β)
    (h1 : ∀ k (x : List β) j, j < L.length → x.length = L.length → F (k + 1) x (j : Int) = F k (x.set j (L.getD j d)) ((j + 1 : Nat) : Int))
    (h3 : ∀ k x, x.length = L.length → F (k + 1) x (L.length : Int) = some x) : ∀ k, L.length + 1 ≤ k → F k x0 0 = some L := by
  have main : ∀ e i, i + e = L.length → ∀ k, e + 1 ≤ k → F k (L.take i ++ x0.drop i) (i : Int) = some L := by
    intro e
    induction e with
    | zero =>
      intro i hi k hk
      have hi : i = L.length := by omega
      subst hi
      obtain ⟨k, rfl⟩ : ∃ m, k = m + 1 := ⟨k - 1, by omega⟩
      rw [h3 k _ (by simp [hx]), List.take_length, List.drop_of_length_le (by omega), List.append_nil]
    | succ e ih =>
      intro i hi k hk
      obtain ⟨k, rfl⟩ : ∃ m, k = m + 1 := ⟨k - 1, by omega⟩
      have hlen : (L.take i ++ x0.drop i).length = L.length := by
        rw [List.length_append, List.length_take, List.length_drop]
        omega
      rw [h1 k _ i (by omega) hlen]
      have hi' : i < L.length := by omega
      have hi2 : i < x0.length := by omega
      have e2 : (L.take i ++ x0.drop i).set i (L.getD i d) = L.take (i + 1) ++ x0.drop (i + 1) := by
        rw [List.set_append_right _ _ (by rw [List.length_take]; omega), List.length_take, show i - min i L.length = 0 by omega, List.drop_eq_getElem_cons hi2, List.set_cons_zero]
        rw [List.take_succ_eq_append_getElem hi', List.append_assoc]
        congr 1
        rw [List.getD_eq_getElem?_getD, List.getElem?_eq_getElem hi']
        rfl
      rw [e2]
      exact ih (i + 1) (by omega) k (by omega)
  intro k hk
  have := main L.length 0 (by omega) k hk
  simpa using this
theorem chain_iff {α : Type} (d : α) (Q : α → Prop) (R : α → α → Prop) (tr : ∀ a b c, R a b → R b c → R a c) (l : List α) :
    (∀ j, j < l.length → Q (l.getD j d) ∧ (0 < j → R (l.getD (j - 1) d) (l.getD j d))) ↔ ((∀ x ∈ l, Q x) ∧ l.Pairwise R) := by
  have gd : ∀ j (h : j < l.length), l.getD j d = l[j] := by
    intro j h
    rw [List.getD_eq_getElem?_getD, List.getElem?_eq_getElem h]
    rfl
  constructor
  · intro h
    refine ⟨fun x hx => ?_, ?_⟩
    · obtain ⟨j, hj, rfl⟩ := List.getElem_of_mem hx
      rw [← gd j hj]
      exact (h j hj).1
    · rw [List.pairwise_iff_getElem]
      have main : ∀ e i (hi : i < l.length) (hj : i + e + 1 < l.length), R l[i] l[i + e + 1] := by
        intro e
        induction e with
        | zero =>
          intro i hi hj
          have := (h (i + 0 + 1) hj).2 (by omega)
          rw [gd _ (show i + 0 + 1 - 1 < l.length by omega), gd _ hj] at this
          exact this
        | succ e ih =>
          intro i hi hj
          have h1 := ih i hi (by omega)
          have := (h (i + (e + 1) + 1) hj).2 (by omega)
          rw [gd _ (show i + (e + 1) + 1 - 1 < l.length by omega), gd _ hj] at this
          exact tr _ _ _ h1 this
      intro i j hi hj hij
      obtain ⟨e, rfl⟩ : ∃ e, j = i + e + 1 := ⟨j - i - 1, by omega⟩
      exact main e i hi hj
  · intro h j hj
    refine ⟨?_, fun h0 => ?_⟩
    · rw [gd j hj]
      exact h.1 _ (List.getElem_mem hj)
    · rw [gd j hj, gd (j - 1) (by omega)]
      exact List.pairwise_iff_getElem.1 h.2 (j - 1) j (by omega) hj (by omega)
/-- What holds of a chain holds of the chain without one of its elements. -/
theorem chain_less {α : Type} {Q : α → Prop} {R : α → α → Prop} {l : List α} (h : (∀ x ∈ l, Q x) ∧ l.Pairwise R) (a b : Nat) (hab : a ≤ b) :
    (∀ x ∈ l.take a ++ l.drop b, Q x) ∧ (l.take a ++ l.drop b).Pairwise R := by
  have sub : (l.take a ++ l.drop b).Sublist l := by
    have h1 : (l.take a ++ l.drop b).Sublist (l.take a ++ l.drop a) := by
      apply List.Sublist.append (List.Sublist.refl _)
      rw [show b = a + (b - a) by omega, ← List.drop_drop]
      exact List.drop_sublist _ _
    rwa [List.take_append_drop] at h1
  exact ⟨fun x hx => h.1 x (sub.subset hx), h.2.sublist sub⟩
theorem go_all2 {α : Type} (F : Nat → Int → Option α) (n K : Nat) (r : α)
    (h1 : ∀ k j, K ≤ k → j < n → F (k + 1 + 1) (j : Int) = F k ((j + 1 : Nat) : Int))
    (h3 : ∀ k, K ≤ k → F (k + 1 + 1) (n : Int) = some r) : ∀ k, K + 2 * (n + 1) ≤ k → F k 0 = some r :=
  go_all F n K 2 r h1 h3
theorem any_ok {α : Type} (F : Nat → Int → Option α) (n K : Nat)
    (h1 : ∀ j, j < n → (∃ r, ∀ k, K ≤ k → F (k + 1) (j : Int) = some r) ∨ (∀ k, K ≤ k → F (k + 1) (j : Int) = F k ((j + 1 : Nat) : Int)))
    (h3 : ∃ r, ∀ k, K ≤ k → F (k + 1) (n : Int) = some r) : ∃ r, ∀ k, n + 1 + K ≤ k → F k 0 = some r := by
  have main : ∀ d i, i + d = n → ∃ r, ∀ k, d + 1 + K ≤ k → F k (i : Int) = some r := by
    intro d
    induction d with
    | zero =>
      intro i hi
      have hi : i = n := by omega
      subst hi
      obtain ⟨r, hr⟩ := h3
      refine ⟨r, fun k hk => ?_⟩
      obtain ⟨k, rfl⟩ : ∃ m, k = m + 1 := ⟨k - 1, by omega⟩
      exact hr k (by omega)
    | succ d ih =>
      intro i hi
      rcases h1 i (by omega) with ⟨r, hr⟩ | h
      · refine ⟨r, fun k hk => ?_⟩
        obtain ⟨k, rfl⟩ : ∃ m, k = m + 1 := ⟨k - 1, by omega⟩
        exact hr k (by omega)
      · obtain ⟨r, hr⟩ := ih (i + 1) (by omega)
        refine ⟨r, fun k hk => ?_⟩
        obtain ⟨k, rfl⟩ : ∃ m, k = m + 1 := ⟨k - 1, by omega⟩
        rw [h k (by omega)]
        exact hr k (by omega)
  exact main n 0 (by omega)

end Go.Proofs.Ytalhkihppcjanaa.Pure
set_option linter.unusedVariables false
set_option linter.unusedSimpArgs false
namespace Go.Proofs.Ytalhkihppcjanaa.Pure
open Go.RowKit Go.Proofs.Ytalhkihppcjanaa.X Go.Proofs.YtalhkihppcjanaaV.PrintWords Go.Proofs.YtalhkihppcjanaaV.PrintLast Go.Proofs.YtalhkihppcjanaaV.PrintMore

theorem between_eq (a lo hi : Int) : impl_between.f a lo hi = some (decide (lo ≤ a ∧ a ≤ hi)) := by
  unfold impl_between.f
  by_cases h : a ≥ lo
  · rw [if_pos h]
    by_cases g : a ≤ hi
    · rw [decide_eq_true g, decide_eq_true ⟨h, g⟩]
    · rw [decide_eq_false g, decide_eq_false (fun h' => g h'.2)]
  · rw [if_neg h, decide_eq_false (fun h' => h h'.1)]

end Go.Proofs.Ytalhkihppcjanaa.Pure
set_option linter.unusedVariables false
set_option linter.unusedSimpArgs false
namespace Go.Proofs.Ytalhkihppcjanaa.Pure
open Go.RowKit Go.Proofs.Ytalhkihppcjanaa.X Go.Proofs.YtalhkihppcjanaaV.PrintWords Go.Proofs.YtalhkihppcjanaaV.PrintLast Go.Proofs.YtalhkihppcjanaaV.PrintMore

theorem l1In_eq (a lo hi : Int) : spec_l1In.f a lo hi = some (decide (lo ≤ a ∧ a ≤ hi)) := by
  unfold spec_l1In.f
  by_cases h : a ≥ lo
  · rw [if_pos h]
    by_cases g : a ≤ hi
    · rw [decide_eq_true g, decide_eq_true ⟨h, g⟩]
    · rw [decide_eq_false g, decide_eq_false (fun h' => g h'.2)]
  · rw [if_neg h, decide_eq_false (fun h' => h h'.1)]

end Go.Proofs.Ytalhkihppcjanaa.Pure
set_option linter.unusedVariables false
set_option linter.unusedSimpArgs false
namespace Go.Proofs.Ytalhkihppcjanaa.Pure
open Go.RowKit Go.Proofs.Ytalhkihppcjanaa.X Go.Proofs.YtalhkihppcjanaaV.PrintWords Go.Proofs.YtalhkihppcjanaaV.PrintLast Go.Proofs.YtalhkihppcjanaaV.PrintMore

def GoodI (l : List Int) (j : Nat) : Prop := (-9999 ≤ l.getD j 0 ∧ l.getD j 0 ≤ 9999) ∧ (0 < j → l.getD (j - 1) 0 < l.getD j 0)
theorem rd_nat (l : List Int) (j : Nat) : rd l (j : Int) = l.getD j 0 := rfl
theorem spec_cuts (l : List Int) (hl : l.length ≤ 1000000000) : ∃ b, (∀ k, l.length + 1 ≤ k → spec_CutsOk.f k l = some b) ∧ (b = true ↔ ((∀ j, j < l.length → GoodI l j) ∧ l.length ≤ 4)) := by
  obtain ⟨b, hb, hb'⟩ := scan_all (fun k i => spec_CutsOk.l0 k l i) l.length 0 (GoodI l) (decide ((l.length : Int) ≤ 4))
    (by
      intro k j _ hj g
      obtain ⟨g1, g2⟩ := g
      show spec_CutsOk.l0 (k + 1) l j = _
      simp only [spec_CutsOk.l0]
      rw [if_pos (by omega), if_pos (by omega), l1In_eq, rd_nat, decide_eq_true g1]
      simp only [Option.bind_some, if_true]
      rw [show wrap64 ((j : Int) + 1) = ((j + 1 : Nat) : Int) by rw [w64g (by omega)]; omega]
      by_cases h0 : j = 0
      · rw [if_neg (by omega)]
      · rw [if_pos (by omega), show wrap64 ((j : Int) - 1) = ((j - 1 : Nat) : Int) by rw [w64g (by omega)]; omega, if_pos (by omega), if_pos (by omega), rd_nat]
        have := g2 (by omega)
        rw [if_neg (by omega)])
    (by
      intro k j _ hj g
      show spec_CutsOk.l0 (k + 1) l j = _
      simp only [spec_CutsOk.l0]
      rw [if_pos (by omega), if_pos (by omega), l1In_eq, rd_nat]
      by_cases g1 : -9999 ≤ l.getD j 0 ∧ l.getD j 0 ≤ 9999
      · rw [decide_eq_true g1]
        simp only [Option.bind_some, if_true]
        have g2 : 0 < j ∧ ¬ l.getD (j - 1) 0 < l.getD j 0 := by
          refine ⟨?_, ?_⟩
          · by_cases h0 : 0 < j
            · exact h0
            · exact absurd ⟨g1, fun h => absurd h h0⟩ g
          · intro h
            exact g ⟨g1, fun _ => h⟩
        obtain ⟨g2, g3⟩ := g2
        rw [if_pos (by omega), show wrap64 ((j : Int) - 1) = ((j - 1 : Nat) : Int) by rw [w64g (by omega)]; omega, if_pos (by omega), if_pos (by omega), rd_nat]
        rw [if_pos (by omega)]
      · rw [decide_eq_false g1]
        simp only [Option.bind_some]
        rw [if_neg (by decide)])
    (by
      intro k _
      show spec_CutsOk.l0 (k + 1) l l.length = _
      simp only [spec_CutsOk.l0]
      rw [if_neg (by omega)])
  refine ⟨b, fun k hk => hb k (by omega), ?_⟩
  rw [hb', decide_eq_true_iff]
  constructor
  · intro h; exact ⟨h.1, by omega⟩
  · intro h; exact ⟨h.1, by omega⟩
theorem impl_rise (l : List Int) (hl : l.length ≤ 1000000000) : ∃ b, (∀ k, l.length + 1 ≤ k → impl_rising.f k l (-9999) 9999 = some b) ∧ (b = true ↔ (∀ j, j < l.length → GoodI l j)) := by
  obtain ⟨b, hb, hb'⟩ := scan_all (fun k i => impl_rising.l0 k l (-9999) 9999 l (l.length : Int) i) l.length 0 (GoodI l) true
    (by
      intro k j _ hj g
      obtain ⟨g1, g2⟩ := g
      show impl_rising.l0 (k + 1) l (-9999) 9999 l (l.length : Int) j = _
      simp only [impl_rising.l0]
      rw [if_pos (by omega), if_pos (by omega), if_pos (by omega), between_eq, rd_nat, decide_eq_true g1]
      simp only [Option.bind_some, if_true]
      rw [show wrap64 ((j : Int) + 1) = ((j + 1 : Nat) : Int) by rw [w64g (by omega)]; omega]
      by_cases h0 : j = 0
      · rw [if_neg (by omega)]
      · rw [if_pos (by omega), show wrap64 ((j : Int) - 1) = ((j - 1 : Nat) : Int) by rw [w64g (by omega)]; omega, if_pos (by omega), if_pos (by omega), rd_nat]
        have := g2 (by omega)
        rw [if_neg (by omega)])
    (by
      intro k j _ hj g
      show impl_rising.l0 (k + 1) l (-9999) 9999 l (l.length : Int) j = _
      simp only [impl_rising.l0]
      rw [if_pos (by omega), if_pos (by omega), if_pos (by omega), between_eq, rd_nat]
      by_cases g1 : -9999 ≤ l.getD j 0 ∧ l.getD j 0 ≤ 9999
      · rw [decide_eq_true g1]
        simp only [Option.bind_some, if_true]
        have g2 : 0 < j ∧ ¬ l.getD (j - 1) 0 < l.getD j 0 := by
          refine ⟨?_, ?_⟩
          · by_cases h0 : 0 < j
            · exact h0
            · exact absurd ⟨g1, fun h => absurd h h0⟩ g
          · intro h
            exact g ⟨g1, fun _ => h⟩
        obtain ⟨g2, g3⟩ := g2
        rw [if_pos (by omega), show wrap64 ((j : Int) - 1) = ((j - 1 : Nat) : Int) by rw [w64g (by omega)]; omega, if_pos (by omega), if_pos (by omega), rd_nat]
        rw [if_pos (by omega)]
      · rw [decide_eq_false g1]
        simp only [Option.bind_some]
        rw [if_neg (by decide)])
    (by
      intro k _
      show impl_rising.l0 (k + 1) l (-9999) 9999 l (l.length : Int) l.length = _
      simp only [impl_rising.l0]
      rw [if_neg (by omega)])
  refine ⟨b, fun k hk => hb k (by omega), ?_⟩
  rw [hb']
  exact ⟨fun h => h.1, fun h => ⟨h, rfl⟩⟩
theorem impl_cuts (l : List Int) (hl : l.length ≤ 1000000000) : ∃ b, (∀ k, l.length + 1 ≤ k → impl_CutsOk.f k l = some b) ∧ (b = true ↔ ((∀ j, j < l.length → GoodI l j) ∧ l.length ≤ 4)) := by
  obtain ⟨b, hb, hb'⟩ := impl_rise l hl
  by_cases h : (l.length : Int) ≤ 4
  · refine ⟨b, fun k hk => ?_, ?_⟩
    · unfold impl_CutsOk.f
      rw [if_pos h, hb k hk]
      rfl
    · rw [hb']
      exact ⟨fun g => ⟨g, by omega⟩, fun g => g.1⟩
  · refine ⟨false, fun k hk => ?_, ?_⟩
    · unfold impl_CutsOk.f
      rw [if_neg h]
    · constructor
      · intro g; cases g
      · intro g; exact absurd (Int.ofNat_le.2 g.2) h
theorem toIntS_eq (l : List Int) (hl : l.length ≤ 1000000000) : ∀ k, l.length + 1 ≤ k → laws_toIntS.f k l = some l := by
  intro k hk
  unfold laws_toIntS.f
  rw [if_pos (by omega), if_pos (by omega)]
  refine copy_all (fun k x i => laws_toIntS.l0 k l x i) l _ (by rw [List.length_replicate]; omega) 0 ?_ ?_ k hk
  · intro k x j hj hx
    show laws_toIntS.l0 (k + 1) l x j = _
    simp only [laws_toIntS.l0]
    rw [if_pos (by omega), if_pos (by omega), if_pos (by omega), show wrap64 ((j : Int) + 1) = ((j + 1 : Nat) : Int) by rw [w64g (by omega)]; omega]
    rfl
  · intro k x hx
    show laws_toIntS.l0 (k + 1) l x l.length = _
    simp only [laws_toIntS.l0]
    rw [if_neg (by omega)]
theorem eqIntS_eq (l : List Int) (hl : l.length ≤ 1000000000) : ∀ k, l.length + 1 ≤ k → laws_eqIntS.f k l l = some true := by
  intro k hk
  unfold laws_eqIntS.f
  rw [if_pos rfl]
  refine go_all (fun k i => laws_eqIntS.l0 k l l i) l.length 0 1 true ?_ ?_ k (by omega)
  · intro k j _ hj
    show laws_eqIntS.l0 (k + 1) l l j = _
    simp only [laws_eqIntS.l0]
    rw [if_pos (by omega), if_pos (by omega), if_pos (by omega), if_pos trivial, show wrap64 ((j : Int) + 1) = ((j + 1 : Nat) : Int) by rw [w64g (by omega)]; omega]
  · intro k _
    show laws_eqIntS.l0 (k + 1) l l l.length = _
    simp only [laws_eqIntS.l0]
    rw [if_neg (by omega)]
theorem cuts_less {l : List Int} (h : (∀ j, j < l.length → GoodI l j) ∧ l.length ≤ 4) (a b : Nat) (hab : a ≤ b) :
    (∀ j, j < (l.take a ++ l.drop b).length → GoodI (l.take a ++ l.drop b) j) ∧ (l.take a ++ l.drop b).length ≤ 4 := by
  refine ⟨?_, ?_⟩
  · have h1 := (chain_iff 0 (fun x : Int => -9999 ≤ x ∧ x ≤ 9999) (fun a b => a < b) (fun a b c h h' => by omega) l).1 h.1
    exact (chain_iff 0 (fun x : Int => -9999 ≤ x ∧ x ≤ 9999) (fun a b => a < b) (fun a b c h h' => by omega) _).2 (chain_less h1 a b hab)
  · rw [List.length_append, List.length_take, List.length_drop]
    omega

end Go.Proofs.Ytalhkihppcjanaa.Pure
set_option linter.unusedVariables false
set_option linter.unusedSimpArgs false
namespace Go.Proofs.Ytalhkihppcjanaa.Pure
open Go.RowKit Go.Proofs.Ytalhkihppcjanaa.X Go.Proofs.YtalhkihppcjanaaV.PrintWords Go.Proofs.YtalhkihppcjanaaV.PrintLast Go.Proofs.YtalhkihppcjanaaV.PrintMore

def pick (P : Nat → Bool) (n : Nat) : List Int := ((List.range n).filter P).map Int.ofNat
theorem pick_succ (P : Nat → Bool) (n : Nat) : pick P (n + 1) = if P n = true then pick P n ++ [(n : Int)] else pick P n := by
  unfold pick
  rw [List.range_succ, List.filter_append]
  by_cases h : P n = true
  · rw [if_pos h, List.map_append]
    simp [h]
  · rw [if_neg h]
    simp [h]
theorem pick_len (P : Nat → Bool) (n : Nat) : (pick P n).length ≤ n := by
  unfold pick
  rw [List.length_map]
  exact Nat.le_trans (List.length_filter_le _ _) (by rw [List.length_range]; exact Nat.le_refl _)
theorem pick_none (P : Nat → Bool) (n : Nat) (h : ∀ j, j < n → P j = false) : pick P n = [] := by
  unfold pick
  rw [List.filter_eq_nil_iff.2 (fun a ha => by rw [h a (List.mem_range.1 ha)]; decide)]
  rfl
theorem pick_more (P : Nat → Bool) (n m : Nat) (hnm : n ≤ m) (h : ∀ j, n ≤ j → j < m → P j = false) : pick P m = pick P n := by
  obtain ⟨d, rfl⟩ := Nat.le.dest hnm
  clear hnm
  induction d with
  | zero => rfl
  | succ d ih =>
    rw [show n + (d + 1) = (n + d) + 1 from rfl, pick_succ, if_neg (by rw [h (n + d) (by omega) (by omega)]; decide)]
    exact ih (fun j hj hj' => h j hj (by omega))
theorem pick_congr (P Q : Nat → Bool) (n : Nat) (h : ∀ j, j < n → P j = Q j) : pick P n = pick Q n := by
  induction n with
  | zero => rfl
  | succ n ih =>
    rw [pick_succ, pick_succ, ih (fun j hj => h j (by omega)), h n (by omega)]
theorem gather {α : Type} (F : Nat → List Int → Int → Option α) (P : Nat → Bool) (lo n : Nat) (hlo : lo ≤ n) (fin : List Int → Option α)
    (h1 : ∀ k j, lo ≤ j → j < n → F (k + 1) (pick P j) (j : Int) = F k (if P j = true then pick P j ++ [(j : Int)] else pick P j) ((j + 1 : Nat) : Int))
    (h3 : ∀ k, F (k + 1) (pick P n) (n : Int) = fin (pick P n)) : ∀ k, n + 1 ≤ k → F k (pick P lo) (lo : Int) = fin (pick P n) := by
  have main : ∀ d j, j + d = n → lo ≤ j → ∀ k, d + 1 ≤ k → F k (pick P j) (j : Int) = fin (pick P n) := by
    intro d
    induction d with
    | zero =>
      intro j hj _ k hk
      have hj : j = n := by omega
      subst hj
      obtain ⟨k, rfl⟩ : ∃ m, k = m + 1 := ⟨k - 1, by omega⟩
      exact h3 k
    | succ d ih =>
      intro j hj hlj k hk
      obtain ⟨k, rfl⟩ : ∃ m, k = m + 1 := ⟨k - 1, by omega⟩
      rw [h1 k j hlj (by omega), ← pick_succ]
      exact ih (j + 1) (by omega) (by omega) k (by omega)
  intro k hk
  exact main (n - lo) lo (by omega) (Nat.le_refl _) k (by omega)
def markI (v : Int) (n : Nat) : List Int := (List.range n).map (fun i => v + Int.ofNat i)
theorem markI_len (v : Int) (n : Nat) : (markI v n).length = n := by unfold markI; rw [List.length_map, List.length_range]
theorem markI_at (v : Int) (n j : Nat) (hj : j < n) (d : Int) : (markI v n).getD j d = v + (j : Int) := by
  unfold markI
  rw [List.getD_eq_getElem?_getD, List.getElem?_map, List.getElem?_range hj]
  rfl
theorem markI_ok (l : List Int) (hl : l.length ≤ 10000000) (v : Int) (h0 : 0 ≤ v) (h1 : v ≤ 100000000) : ∀ k, l.length + 1 ≤ k → laws_markIntS.f k l v = some (v + l.length, markI v l.length) := by
  have main : ∀ e i, i + e = l.length → ∀ k, e + 1 ≤ k → laws_markIntS.l0 k ((markI v l.length).take i ++ l.drop i) (v + i) (i : Int) = some (v + l.length, markI v l.length) := by
    intro e
    induction e with
    | zero =>
      intro i hi k hk
      have hi : i = l.length := by omega
      subst hi
      obtain ⟨k, rfl⟩ : ∃ m, k = m + 1 := ⟨k - 1, by omega⟩
      have hz : ((markI v l.length).take l.length ++ l.drop l.length) = markI v l.length := by
        rw [List.drop_of_length_le (Nat.le_refl _), List.append_nil, List.take_of_length_le (by rw [markI_len]; omega)]
      rw [hz, laws_markIntS.l0, if_neg (by rw [markI_len]; omega)]
    | succ e ih =>
      intro i hi k hk
      obtain ⟨k, rfl⟩ : ∃ m, k = m + 1 := ⟨k - 1, by omega⟩
      have hi' : i < l.length := by omega
      have hi2 : i < (markI v l.length).length := by rw [markI_len]; exact hi'
      have hlt : ((markI v l.length).take i).length = i := by rw [List.length_take, markI_len]; omega
      have hlen : ((markI v l.length).take i ++ l.drop i).length = l.length := by
        rw [List.length_append, hlt, List.length_drop]
        omega
      rw [laws_markIntS.l0, if_pos (by omega), if_pos (by omega), Int.toNat_natCast, w64g (n := v + (i : Int) + 1) (by omega), show wrap64 ((i : Int) + 1) = ((i + 1 : Nat) : Int) by rw [w64g (by omega)]; omega, List.set_append_right _ _ (by omega), hlt, Nat.sub_self, List.drop_eq_getElem_cons hi', List.set_cons_zero]
      have := ih (i + 1) (by omega) k (by omega)
      have em : (markI v l.length)[i] = v + (i : Int) := by
        have h1 := markI_at v l.length i hi' 0
        rw [List.getD_eq_getElem?_getD, List.getElem?_eq_getElem hi2] at h1
        exact h1
      rw [List.take_succ_eq_append_getElem hi2, List.append_assoc, em] at this
      rw [show v + (i : Int) + 1 = v + ((i + 1 : Nat) : Int) by omega]
      exact this
  intro k hk
  have := main l.length 0 (by omega) k hk
  rw [List.take_zero, List.drop_zero, List.nil_append] at this
  unfold laws_markIntS.f
  simpa using this
theorem heldI_ok (n : Nat) (hn : n ≤ 10000000) (v : Int) (h0 : 0 ≤ v) (h1 : v ≤ 100000000) : ∀ k, n + 1 ≤ k → laws_heldIntS.f k (markI v n) v = some (v + n) := by
  intro k hk
  have := go_all (fun k i => laws_heldIntS.l0 k (markI v n) (v + i) i) n 0 1 (v + n) ?_ ?_ k (by omega)
  · unfold laws_heldIntS.f
    simpa using this
  · intro k j _ hj
    show laws_heldIntS.l0 (k + 1) (markI v n) (v + (j : Int)) (j : Int) = _
    have hr : rd (markI v n) (j : Int) = v + (j : Int) := markI_at v n j hj _
    rw [laws_heldIntS.l0, if_pos (by rw [markI_len]; omega), if_pos (by omega), hr, if_pos rfl, w64g (n := v + (j : Int) + 1) (by omega), show wrap64 ((j : Int) + 1) = ((j + 1 : Nat) : Int) by rw [w64g (by omega)]; omega, show v + (j : Int) + 1 = v + ((j + 1 : Nat) : Int) by omega]
  · intro k _
    show laws_heldIntS.l0 (k + 1) (markI v n) (v + (n : Int)) (n : Int) = _
    rw [laws_heldIntS.l0, if_neg (by rw [markI_len]; omega)]

end Go.Proofs.Ytalhkihppcjanaa.Pure
set_option linter.unusedVariables false
set_option linter.unusedSimpArgs false
namespace Go.Proofs.Ytalhkihppcjanaa.Pure
open Go.RowKit Go.Proofs.Ytalhkihppcjanaa.X Go.Proofs.YtalhkihppcjanaaV.PrintWords Go.Proofs.YtalhkihppcjanaaV.PrintLast Go.Proofs.YtalhkihppcjanaaV.PrintMore

def below (l : List Int) (n : Int) : List Int := l.takeWhile (fun c => decide (c < n))
theorem below_split (l : List Int) (n : Int) : l = below l n ++ l.dropWhile (fun c => decide (c < n)) := (List.takeWhile_append_dropWhile).symm
theorem below_len (l : List Int) (n : Int) : (below l n).length ≤ l.length := by
  have := congrArg List.length (below_split l n)
  rw [List.length_append] at this
  omega
theorem below_lt (l : List Int) (n : Int) : ∀ x ∈ below l n, x < n := by
  intro x hx
  have := List.all_takeWhile (p := fun c => decide (c < n)) (l := l)
  rw [List.all_eq_true] at this
  exact of_decide_eq_true (this x hx)
theorem rest_ge (l : List Int) (n : Int) (h : l.Pairwise (fun a b => a < b)) : ∀ x ∈ l.dropWhile (fun c => decide (c < n)), n ≤ x := by
  induction l with
  | nil => intro x hx; simp at hx
  | cons a t ih =>
    rw [List.pairwise_cons] at h
    intro x hx
    rw [List.dropWhile_cons] at hx
    by_cases ha : a < n
    · rw [if_pos (decide_eq_true ha)] at hx
      exact ih h.2 x hx
    · rw [if_neg (fun g => ha (of_decide_eq_true g))] at hx
      rcases List.mem_cons.1 hx with g | g
      · omega
      · have := h.1 x g
        omega
theorem at_lt (l : List Int) (n : Int) (j : Nat) (hj : j < (below l n).length) : l.getD j 0 < n := by
  have hs := below_split l n
  rw [hs, List.getD_eq_getElem?_getD, List.getElem?_append_left hj, List.getElem?_eq_getElem hj]
  exact below_lt l n _ (List.getElem_mem hj)
theorem at_ge (l : List Int) (n : Int) (h : l.Pairwise (fun a b => a < b)) (j : Nat) (hj : (below l n).length ≤ j) (hj' : j < l.length) : n ≤ l.getD j 0 := by
  have hs := below_split l n
  have hlen := congrArg List.length hs
  rw [List.length_append] at hlen
  rw [hs, List.getD_eq_getElem?_getD, List.getElem?_append_right hj, List.getElem?_eq_getElem (by omega)]
  exact rest_ge l n h _ (List.getElem_mem _)
theorem less_eq (a b : Int) : cmp_Less_int.f a b = some (decide (a < b)) := by
  unfold cmp_Less_int.f cmp_isNaN_int.f
  simp
theorem nan_eq (a : Int) : slices_isNaN_int.f a = some false := by
  unfold slices_isNaN_int.f
  simp
theorem num_eq (n : Int) : impl_numOk.f n = some (decide (-9999 ≤ n ∧ n ≤ 9999)) := by
  unfold impl_numOk.f
  rw [between_eq, Option.bind_some]
theorem mid_eq (a b : Nat) (h : a + b ≤ 1000) : wrap64 ((IntKind.u64.wrap (wrap64 ((a : Int) + (b : Int)))) / 2) = (((a + b) / 2 : Nat) : Int) := by
  have e : IntKind.u64.wrap (wrap64 ((a : Int) + (b : Int))) = ((a + b : Nat) : Int) := by
    rw [w64g (by omega), show ((a : Int) + (b : Int)) = ((a + b : Nat) : Int) by omega]
    unfold IntKind.wrap
    simp [IntKind.signed, IntKind.bits]
    omega
  rw [e, show (((a + b : Nat) : Int) / 2) = (((a + b) / 2 : Nat) : Int) by omega, w64g (by omega)]
theorem search_ok (l : List Int) (n : Int) (hl : l.length ≤ 4) (h : l.Pairwise (fun a b => a < b)) (p : Nat) (hp : p = (below l n).length) : ∀ d lo hi, hi - lo ≤ d → lo ≤ p → p ≤ hi → hi ≤ l.length → ∀ k, d + 1 ≤ k → slices_BinarySearch_int_int.l0 k l n (l.length : Int) (lo : Int) (hi : Int) = some ((p : Int), decide (p < l.length ∧ l.getD p 0 = n)) := by
  intro d
  induction d with
  | zero =>
    intro lo hi h1 h2 h3 h4 k hk
    obtain ⟨k, rfl⟩ : ∃ m, k = m + 1 := ⟨k - 1, by omega⟩
    obtain rfl : lo = p := by omega
    rw [slices_BinarySearch_int_int.l0, if_neg (by omega)]
    by_cases hlt : lo < l.length
    · rw [if_pos (by omega), if_pos (by omega), if_pos (by omega), rd_nat]
      by_cases he : l.getD lo 0 = n
      · rw [if_pos he, decide_eq_true ⟨hlt, he⟩]
      · rw [if_neg he, nan_eq, Option.bind_some, if_neg (by decide), decide_eq_false (fun g => he g.2)]
    · rw [if_neg (by omega), decide_eq_false (fun g => hlt g.1)]
  | succ d ih =>
    intro lo hi h1 h2 h3 h4 k hk
    by_cases hlh : hi - lo ≤ d
    · exact ih lo hi hlh h2 h3 h4 k (by omega)
    · obtain ⟨k, rfl⟩ : ∃ m, k = m + 1 := ⟨k - 1, by omega⟩
      rw [slices_BinarySearch_int_int.l0, if_pos (by omega), mid_eq lo hi (by omega), if_pos (by omega), if_pos (by omega), rd_nat, less_eq, Option.bind_some]
      by_cases hm : (lo + hi) / 2 < p
      · have := at_lt l n ((lo + hi) / 2) (by omega)
        rw [decide_eq_true this, if_pos rfl, show wrap64 ((((lo + hi) / 2 : Nat) : Int) + 1) = (((lo + hi) / 2 + 1 : Nat) : Int) by rw [w64g (by omega)]; omega]
        exact ih _ hi (by omega) (by omega) h3 h4 k (by omega)
      · have := at_ge l n h ((lo + hi) / 2) (by omega) (by omega)
        rw [decide_eq_false (by omega), if_neg (by decide)]
        exact ih lo _ (by omega) h2 (by omega) (by omega) k (by omega)
/-- What CutMore hands back: the cuts with one more, or as they were. -/
def more (l : List Int) (n : Int) : List Int × Bool :=
  if (below l n).length < l.length ∧ l.getD (below l n).length 0 = n then (l, false) else if l.length = 4 then (l, false) else (l.take (below l n).length ++ n :: l.drop (below l n).length, true)
theorem impl_more (l : List Int) (n : Int) (hl : l.length ≤ 4) (h : l.Pairwise (fun a b => a < b)) : ∀ k, 10 ≤ k → impl_CutsOk.f k l = some true → impl_numOk.f n = some true → impl_CutMore.f k l n = some (more l n) := by
  intro k hk h1 h2
  have hs : slices_BinarySearch_int_int.f k l n = some (((below l n).length : Int), decide ((below l n).length < l.length ∧ l.getD (below l n).length 0 = n)) := by
    unfold slices_BinarySearch_int_int.f
    exact search_ok l n hl h _ rfl 4 0 l.length (by omega) (by omega) (below_len l n) (Nat.le_refl _) k (by omega)
  have hb := below_len l n
  unfold impl_CutMore.f more
  rw [h1, Option.bind_some, if_pos rfl, h2, Option.bind_some, if_pos rfl, hs, Option.bind_some, if_pos (by refine ⟨by omega, by omega, ?_⟩; show ((below l n).length : Int) ≤ _; omega)]
  by_cases hc : (below l n).length < l.length ∧ l.getD (below l n).length 0 = n
  · rw [if_pos hc, if_pos (show decide _ = true from decide_eq_true hc)]
  · rw [if_neg hc, if_neg (show ¬ (decide _ = true) by rw [decide_eq_true_iff]; exact hc)]
    by_cases h4 : l.length = 4
    · rw [if_pos h4, if_pos h4]
    · rw [if_neg h4, if_neg h4]
      rfl
/-- The reference's round behind the place: everything is taken over. -/
theorem along_back (l : List Int) (n : Int) (hl : l.length ≤ 4) (h : l.Pairwise (fun a b => a < b)) (p : Nat) (hp : p = (below l n).length) (hne : ¬ (p < l.length ∧ l.getD p 0 = n)) (add : Bool) : ∀ d j out, j + d = l.length → p ≤ j → out.length ≤ 10 + j → ∀ k, d + 1 ≤ k → spec_CutMore.l0 k l n out true add (j : Int) = some (out ++ l.drop j, add) := by
  intro d
  induction d with
  | zero =>
    intro j out hj hpj ho k hk
    obtain ⟨k, rfl⟩ : ∃ m, k = m + 1 := ⟨k - 1, by omega⟩
    rw [spec_CutMore.l0, if_neg (by omega), if_pos rfl, List.drop_of_length_le (by omega), List.append_nil]
  | succ d ih =>
    intro j out hj hpj ho k hk
    obtain ⟨k, rfl⟩ : ∃ m, k = m + 1 := ⟨k - 1, by omega⟩
    have hg := at_ge l n h j (by omega) (by omega)
    have hgt : l.getD j 0 ≠ n := by
      intro e
      by_cases ej : j = p
      · subst ej
        exact hne ⟨by omega, e⟩
      · have h2 := at_ge l n h p (by omega) (by omega)
        have h3 := List.pairwise_iff_getElem.1 h p j (by omega) (by omega) (by omega)
        rw [List.getD_eq_getElem?_getD, List.getElem?_eq_getElem (by omega)] at e h2
        have e' : l[j]'(by omega) = n := e
        have h2' : n ≤ l[p]'(by omega) := h2
        omega
    rw [spec_CutMore.l0, if_pos (by omega), if_pos (by omega), rd_nat, if_neg hgt, if_pos (by omega), if_pos rfl, if_pos (by omega), show wrap64 ((j : Int) + 1) = ((j + 1 : Nat) : Int) by rw [w64g (by omega)]; omega, ih (j + 1) _ (by omega) (by omega) (by rw [List.length_append, List.length_singleton]; omega) k (by omega)]
    have hjl : j < l.length := by omega
    rw [List.drop_eq_getElem_cons hjl, List.append_assoc]
    have : l.getD j 0 = l[j] := by rw [List.getD_eq_getElem?_getD, List.getElem?_eq_getElem hjl]; rfl
    rw [this]
    rfl
theorem along (l : List Int) (n : Int) (hl : l.length ≤ 4) (h : l.Pairwise (fun a b => a < b)) (p : Nat) (hp : p = (below l n).length) : ∀ d j, j + d = p → ∀ k, d + 8 ≤ k → spec_CutMore.l0 k l n (l.take j) (decide ((l.length : Int) = 4)) false (j : Int) = some (more l n) := by
  intro d
  have hpl := below_len l n
  induction d with
  | zero =>
    intro j hj k hk
    obtain ⟨k, rfl⟩ : ∃ m, k = m + 1 := ⟨k - 1, by omega⟩
    obtain rfl : j = p := by omega
    unfold more
    rw [← hp]
    have htl : (l.take j).length = j := by rw [List.length_take]; omega
    by_cases hlt : j < l.length
    · have hg := at_ge l n h j (by omega) hlt
      by_cases he : l.getD j 0 = n
      · rw [if_pos ⟨hlt, he⟩, spec_CutMore.l0, if_pos (by omega), if_pos (by omega), rd_nat, if_pos he, Option.bind_some, if_pos (by simp; omega)]
        rfl
      · have hne : ¬ (j < l.length ∧ l.getD j 0 = n) := fun g => he g.2
        rw [if_neg hne]
        by_cases h4 : l.length = 4
        · rw [if_pos h4, decide_eq_true (by omega), along_back l n hl h j hp hne false (l.length - j) j _ (by omega) (Nat.le_refl _) (by omega) _ (by omega), List.take_append_drop]
        · rw [if_neg h4, decide_eq_false (by omega), spec_CutMore.l0, if_pos (by omega), if_pos (by omega), rd_nat, if_neg he, if_pos (by omega), if_neg (by decide), if_pos (by omega), Option.bind_some, if_pos (by rw [List.length_append, htl, List.length_singleton]; omega), show wrap64 ((j : Int) + 1) = ((j + 1 : Nat) : Int) by rw [w64g (by omega)]; omega]
          rw [along_back l n hl h j hp hne true (l.length - (j + 1)) (j + 1) _ (by omega) (by omega) (by simp only [List.length_append, List.length_singleton]; omega) _ (by omega)]
          have : l.getD j 0 = l[j] := by rw [List.getD_eq_getElem?_getD, List.getElem?_eq_getElem hlt]; rfl
          rw [List.drop_eq_getElem_cons hlt, this]
          simp
    · have hne : ¬ (j < l.length ∧ l.getD j 0 = n) := fun g => hlt g.1
      rw [if_neg hne, spec_CutMore.l0, if_neg (by omega)]
      by_cases h4 : l.length = 4
      · rw [if_pos h4, decide_eq_true (by omega), if_pos rfl, List.take_of_length_le (by omega)]
      · rw [if_neg h4, decide_eq_false (by omega), if_neg (by decide), if_pos (by omega), List.drop_of_length_le (by omega)]
  | succ d ih =>
    intro j hj k hk
    obtain ⟨k, rfl⟩ : ∃ m, k = m + 1 := ⟨k - 1, by omega⟩
    have hg := at_lt l n j (by omega)
    have hjl : j < l.length := by omega
    have : l.getD j 0 = l[j] := by rw [List.getD_eq_getElem?_getD, List.getElem?_eq_getElem hjl]; rfl
    rw [spec_CutMore.l0, if_pos (by omega), if_pos (by omega), rd_nat, if_neg (by omega), if_neg (by omega), if_pos (by rw [List.length_take]; omega), show wrap64 ((j : Int) + 1) = ((j + 1 : Nat) : Int) by rw [w64g (by omega)]; omega, this, ← List.take_succ_eq_append_getElem hjl]
    exact ih (j + 1) (by omega) k (by omega)
theorem more_len (l : List Int) (n : Int) (hl : l.length ≤ 4) : (more l n).1.length ≤ 5 := by
  unfold more
  have := below_len l n
  split
  · show l.length ≤ 5; omega
  · split
    · show l.length ≤ 5; omega
    · simp only [List.length_append, List.length_cons, List.length_take, List.length_drop]
      omega
theorem both_more (l : List Int) (hl : l.length ≤ 1000000000) (n : Int) : ∃ r b, r.length ≤ 5 ∧ ∀ k, l.length + 20 ≤ k → spec_CutMore.f k l n = some (r, b) ∧ impl_CutMore.f k l n = some (r, b) := by
  obtain ⟨b1, hb1, hb1'⟩ := spec_cuts l hl
  obtain ⟨c1, hc1, hc1'⟩ := impl_cuts l hl
  have e : c1 = b1 := by rw [Bool.eq_iff_iff, hb1', hc1']
  subst e
  cases c1 with
  | false =>
    refine ⟨[], false, by simp, fun k hk => ⟨?_, ?_⟩⟩
    · unfold spec_CutMore.f
      rw [hb1 k (by omega), Option.bind_some, if_neg (by decide)]
      obtain ⟨k, rfl⟩ : ∃ m, k = m + 1 := ⟨k - 1, by omega⟩
      rw [spec_CutMore.j0, if_pos rfl]
    · unfold impl_CutMore.f
      rw [hc1 k (by omega), Option.bind_some, if_neg (by decide)]
  | true =>
    obtain ⟨hg, hl4⟩ := hc1'.1 rfl
    have hP : l.Pairwise (fun a b => a < b) := ((chain_iff 0 (fun x : Int => -9999 ≤ x ∧ x ≤ 9999) (fun a b => a < b) (fun a b c h h' => by omega) l).1 hg).2
    by_cases hn : -9999 ≤ n ∧ n ≤ 9999
    · refine ⟨(more l n).1, (more l n).2, more_len l n hl4, fun k hk => ⟨?_, ?_⟩⟩
      · unfold spec_CutMore.f
        rw [hb1 k (by omega), Option.bind_some, if_pos rfl, l1In_eq, decide_eq_true hn, Option.bind_some]
        obtain ⟨k, rfl⟩ : ∃ m, k = m + 1 := ⟨k - 1, by omega⟩
        rw [spec_CutMore.j0, if_neg (by decide)]
        have := along l n hl4 hP (below l n).length rfl (below l n).length 0 (by omega) k (by have := below_len l n; omega)
        rw [List.take_zero] at this
        exact this
      · exact impl_more l n hl4 hP k (by omega) (hc1 k (by omega)) (by rw [num_eq, decide_eq_true hn])
    · refine ⟨[], false, by simp, fun k hk => ⟨?_, ?_⟩⟩
      · unfold spec_CutMore.f
        rw [hb1 k (by omega), Option.bind_some, if_pos rfl, l1In_eq, decide_eq_false hn, Option.bind_some]
        obtain ⟨k, rfl⟩ : ∃ m, k = m + 1 := ⟨k - 1, by omega⟩
        rw [spec_CutMore.j0, if_pos (show (!false) = true from rfl)]
      · unfold impl_CutMore.f
        rw [hc1 k (by omega), Option.bind_some, if_pos rfl, num_eq, decide_eq_false hn, Option.bind_some, if_neg (by decide)]

end Go.Proofs.Ytalhkihppcjanaa.Pure
set_option linter.unusedVariables false
set_option linter.unusedSimpArgs false
namespace Go.Proofs.Ytalhkihppcjanaa.Pure
open Go.RowKit Go.Proofs.Ytalhkihppcjanaa.X Go.Proofs.YtalhkihppcjanaaV.PrintWords Go.Proofs.YtalhkihppcjanaaV.PrintLast Go.Proofs.YtalhkihppcjanaaV.PrintMore

theorem FnExactCutMore : laws_FnExactCutMore.Pure := by
  intro l n hl _
  obtain ⟨K, hK⟩ : ∃ K, l.length + 1000 ≤ K := ⟨_, Nat.le_refl _⟩
  refine ⟨K + 3, ?_⟩
  unfold laws_FnExactCutMore.f
  by_cases h : (l.length : Int) > 1048576
  · rw [if_pos h]
  obtain ⟨r, b, hr, hb⟩ := both_more l (by omega) n
  have tl : ∀ k, K ≤ k → laws_toIntS.f k l = some l := fun k hk => toIntS_eq l (by omega) k (by omega)
  have er : ∀ k, K ≤ k → laws_eqIntS.f k r r = some true := fun k hk => eqIntS_eq r (by omega) k (by omega)
  rw [if_neg h, tl _ (by omega), Option.bind_some, (hb _ (by omega)).1, Option.bind_some, Option.bind_some, (hb _ (by omega)).2, Option.bind_some, er _ (by omega), Option.bind_some, if_pos rfl]
  rw [laws_FnExactCutMore.j0, if_neg (by simp), tl _ (by omega), Option.bind_some, eqIntS_eq l (by omega) _ (by omega), Option.bind_some, if_pos rfl, markI_ok l (by omega) 1 (by decide) (by decide) _ (by omega), Option.bind_some, if_neg (by omega), er _ (by omega), Option.bind_some, if_pos rfl]
  rw [laws_FnExactCutMore.j1, if_neg (by simp), markI_ok r (by omega) 1 (by decide) (by decide) _ (by omega), Option.bind_some]
  show ((laws_heldIntS.f (K + 1) (markI 1 r.length) 1).bind _) = _
  rw [heldI_ok r.length (by omega) 1 (by decide) (by decide) _ (by omega), Option.bind_some, if_neg (by omega), if_pos rfl, tl _ (by omega), Option.bind_some, (hb _ (by omega)).2, Option.bind_some, er _ (by omega), Option.bind_some, if_pos rfl]
  rw [laws_FnExactCutMore.j2, if_neg (by simp)]
  show ((laws_heldIntS.f K (markI 1 r.length) 1).bind _) = _
  rw [heldI_ok r.length (by omega) 1 (by decide) (by decide) _ (by omega), Option.bind_some, if_neg (by omega), if_pos rfl]

end Go.Proofs.Ytalhkihppcjanaa.Pure
