/- Loops told in general: a scan over a list, a copy of a list, a chain that rises; plain lemmas. -/
import Derived.Test.YtkgnfbockgcdpaaVMore
set_option linter.unusedVariables false
set_option linter.unusedSimpArgs false
namespace Go.Proofs.Ytkgnfbockgcdpaa.Pure
open Go.RowKit Go.Proofs.YtkgnfbockgcdpaaV.PrintWords Go.Proofs.YtkgnfbockgcdpaaV.PrintLast Go.Proofs.YtkgnfbockgcdpaaV.PrintMore

theorem w64g {n : Int} (h : -9223372036854775808 ≤ n ∧ n ≤ 9223372036854775807) : wrap64 n = n := by unfold wrap64; omega
theorem scan_all (F : Nat → Int → Option Bool) (n K : Nat) (G : Nat → Prop) (fin : Bool)
    (h1 : ∀ k j, K ≤ k → j < n → G j → F (k + 1) (j : Int) = F k ((j + 1 : Nat) : Int))
    (h2 : ∀ k j, K ≤ k → j < n → ¬ G j → F (k + 1) (j : Int) = some false)
    (h3 : ∀ k, K ≤ k → F (k + 1) (n : Int) = some fin) :
    ∃ b, (∀ k, n + 1 + K ≤ k → F k 0 = some b) ∧ (b = true ↔ ((∀ j, j < n → G j) ∧ fin = true)) := by
  have main : ∀ d i, i + d = n → ∃ b, (∀ k, d + 1 + K ≤ k → F k (i : Int) = some b) ∧ (b = true ↔ ((∀ j, i ≤ j → j < n → G j) ∧ fin = true)) := by
    intro d
    induction d with
    | zero =>
      intro i hi
      have hi : i = n := by omega
      subst hi
      refine ⟨fin, fun k hk => ?_, ⟨fun h => ⟨fun j h1 h2 => by omega, h⟩, fun h => h.2⟩⟩
      obtain ⟨k, rfl⟩ : ∃ m, k = m + 1 := ⟨k - 1, by omega⟩
      exact h3 k (by omega)
    | succ d ih =>
      intro i hi
      by_cases g : G i
      · obtain ⟨b, hb, hb'⟩ := ih (i + 1) (by omega)
        refine ⟨b, fun k hk => ?_, ?_⟩
        · obtain ⟨k, rfl⟩ : ∃ m, k = m + 1 := ⟨k - 1, by omega⟩
          rw [h1 k i (by omega) (by omega) g]
          exact hb k (by omega)
        · rw [hb']
          constructor
          · intro h
            refine ⟨fun j hj hj' => ?_, h.2⟩
            by_cases e : j = i
            · rw [e]; exact g
            · exact h.1 j (by omega) hj'
          · intro h
            exact ⟨fun j hj hj' => h.1 j (by omega) hj', h.2⟩
      · refine ⟨false, fun k hk => ?_, ?_⟩
        · obtain ⟨k, rfl⟩ : ∃ m, k = m + 1 := ⟨k - 1, by omega⟩
          exact h2 k i (by omega) (by omega) g
        · constructor
          · intro h
            cases h
          · intro h
            exact absurd (h.1 i (Nat.le_refl _) (by omega)) g
  obtain ⟨b, hb, hb'⟩ := main n 0 (by omega)
  refine ⟨b, hb, ?_⟩
  rw [hb']
  constructor
  · intro h; exact ⟨fun j hj => h.1 j (by omega) hj, h.2⟩
  · intro h; exact ⟨fun j _ hj => h.1 j hj, h.2⟩
theorem go_all {α : Type} (F : Nat → Int → Option α) (n K c : Nat) (r : α)
    (h1 : ∀ k j, K ≤ k → j < n → F (k + c) (j : Int) = F k ((j + 1 : Nat) : Int))
    (h3 : ∀ k, K ≤ k → F (k + c) (n : Int) = some r) : ∀ k, K + c * (n + 1) ≤ k → F k 0 = some r := by
  have main : ∀ d i, i + d = n → ∀ k, K + c * (d + 1) ≤ k → F k (i : Int) = some r := by
    intro d
    induction d with
    | zero =>
      intro i hi k hk
      have hi : i = n := by omega
      subst hi
      obtain ⟨k, rfl⟩ : ∃ m, k = m + c := ⟨k - c, by omega⟩
      exact h3 k (by omega)
    | succ d ih =>
      intro i hi k hk
      have e : c * (d + 1 + 1) = c * (d + 1) + c := Nat.mul_succ _ _
      obtain ⟨k, rfl⟩ : ∃ m, k = m + c := ⟨k - c, by omega⟩
      rw [h1 k i (by omega) (by omega)]
      exact ih (i + 1) (by omega) k (by omega)
  exact main n 0 (by omega)
theorem copy_all {β : Type} (F : Nat → List β → Int → Option (List β)) (L : List β) (x0 : List β) (hx : x0.length = L.length) (d : β)
    (h1 : ∀ k (x : List β) j, j < L.length → x.length = L.length → F (k + 1) x (j : Int) = F k (x.set j (L.getD j d)) ((j + 1 : Nat) : Int))
    (h3 : ∀ k x, x.length = L.length → F (k + 1) x (L.length : Int) = some x) : ∀ k, L.length + 1 ≤ k → F k x0 0 = some L := by
  have main : ∀ e i, i + e = L.length → ∀ k, e + 1 ≤ k → F k (L.take i ++ x0.drop i) (i : Int) = some L := by
    intro e
    induction e with
    | zero =>
      intro i hi k hk
      have hi : i = L.length := by omega
      subst hi
      obtain ⟨k, rfl⟩ : ∃ m, k = m + 1 := ⟨k - 1, by omega⟩
      rw [h3 k _ (by simp [hx]), List.take_length, List.drop_of_length_le (by omega), List.append_nil]
    | succ e ih =>
      intro i hi k hk
      obtain ⟨k, rfl⟩ : ∃ m, k = m + 1 := ⟨k - 1, by omega⟩
      have hlen : (L.take i ++ x0.drop i).length = L.length := by
        rw [List.length_append, List.length_take, List.length_drop]
        omega
      rw [h1 k _ i (by omega) hlen]
      have hi' : i < L.length := by omega
      have hi2 : i < x0.length := by omega
      have e2 : (L.take i ++ x0.drop i).set i (L.getD i d) = L.take (i + 1) ++ x0.drop (i + 1) := by
        rw [List.set_append_right _ _ (by rw [List.length_take]; omega), List.length_take, show i - min i L.length = 0 by omega, List.drop_eq_getElem_cons hi2, List.set_cons_zero]
        rw [List.take_succ_eq_append_getElem hi', List.append_assoc]
        congr 1
        rw [List.getD_eq_getElem?_getD, List.getElem?_eq_getElem hi']
        rfl
      rw [e2]
      exact ih (i + 1) (by omega) k (by omega)
  intro k hk
  have := main L.length 0 (by omega) k hk
  simpa using this
theorem chain_iff {α : Type} (d : α) (Q : α → Prop) (R : α → α → Prop) (tr : ∀ a b c, R a b → R b c → R a c) (l : List α) :
    (∀ j, j < l.length → Q (l.getD j d) ∧ (0 < j → R (l.getD (j - 1) d) (l.getD j d))) ↔ ((∀ x ∈ l, Q x) ∧ l.Pairwise R) := by
  have gd : ∀ j (h : j < l.length), l.getD j d = l[j] := by
    intro j h
    rw [List.getD_eq_getElem?_getD, List.getElem?_eq_getElem h]
    rfl
  constructor
  · intro h
    refine ⟨fun x hx => ?_, ?_⟩
    · obtain ⟨j, hj, rfl⟩ := List.getElem_of_mem hx
      rw [← gd j hj]
      exact (h j hj).1
    · rw [List.pairwise_iff_getElem]
      have main : ∀ e i (hi : i < l.length) (hj : i + e + 1 < l.length), R l[i] l[i + e + 1] := by
        intro e
        induction e with
        | zero =>
          intro i hi hj
          have := (h (i + 0 + 1) hj).2 (by omega)
          rw [gd _ (show i + 0 + 1 - 1 < l.length by omega), gd _ hj] at this
          exact this
        | succ e ih =>
          intro i hi hj
          have h1 := ih i hi (by omega)
          have := (h (i + (e + 1) + 1) hj).2 (by omega)
          rw [gd _ (show i + (e + 1) + 1 - 1 < l.length by omega), gd _ hj] at this
          exact tr _ _ _ h1 this
      intro i j hi hj hij
      obtain ⟨e, rfl⟩ : ∃ e, j = i + e + 1 := ⟨j - i - 1, by omega⟩
      exact main e i hi hj
  · intro h j hj
    refine ⟨?_, fun h0 => ?_⟩
    · rw [gd j hj]
      exact h.1 _ (List.getElem_mem hj)
    · rw [gd j hj, gd (j - 1) (by omega)]
      exact List.pairwise_iff_getElem.1 h.2 (j - 1) j (by omega) hj (by omega)
/-- What holds of a chain holds of the chain without one of its elements. -/
theorem chain_less {α : Type} {Q : α → Prop} {R : α → α → Prop} {l : List α} (h : (∀ x ∈ l, Q x) ∧ l.Pairwise R) (a b : Nat) (hab : a ≤ b) :
    (∀ x ∈ l.take a ++ l.drop b, Q x) ∧ (l.take a ++ l.drop b).Pairwise R := by
  have sub : (l.take a ++ l.drop b).Sublist l := by
    have h1 : (l.take a ++ l.drop b).Sublist (l.take a ++ l.drop a) := by
      apply List.Sublist.append (List.Sublist.refl _)
      rw [show b = a + (b - a) by omega, ← List.drop_drop]
      exact List.drop_sublist _ _
    rwa [List.take_append_drop] at h1
  exact ⟨fun x hx => h.1 x (sub.subset hx), h.2.sublist sub⟩
theorem go_all2 {α : Type} (F : Nat → Int → Option α) (n K : Nat) (r : α)
    (h1 : ∀ k j, K ≤ k → j < n → F (k + 1 + 1) (j : Int) = F k ((j + 1 : Nat) : Int))
    (h3 : ∀ k, K ≤ k → F (k + 1 + 1) (n : Int) = some r) : ∀ k, K + 2 * (n + 1) ≤ k → F k 0 = some r :=
  go_all F n K 2 r h1 h3
theorem any_ok {α : Type} (F : Nat → Int → Option α) (n K : Nat)
    (h1 : ∀ j, j < n → (∃ r, ∀ k, K ≤ k → F (k + 1) (j : Int) = some r) ∨ (∀ k, K ≤ k → F (k + 1) (j : Int) = F k ((j + 1 : Nat) : Int)))
    (h3 : ∃ r, ∀ k, K ≤ k → F (k + 1) (n : Int) = some r) : ∃ r, ∀ k, n + 1 + K ≤ k → F k 0 = some r := by
  have main : ∀ d i, i + d = n → ∃ r, ∀ k, d + 1 + K ≤ k → F k (i : Int) = some r := by
    intro d
    induction d with
    | zero =>
      intro i hi
      have hi : i = n := by omega
      subst hi
      obtain ⟨r, hr⟩ := h3
      refine ⟨r, fun k hk => ?_⟩
      obtain ⟨k, rfl⟩ : ∃ m, k = m + 1 := ⟨k - 1, by omega⟩
      exact hr k (by omega)
    | succ d ih =>
      intro i hi
      rcases h1 i (by omega) with ⟨r, hr⟩ | h
      · refine ⟨r, fun k hk => ?_⟩
        obtain ⟨k, rfl⟩ : ∃ m, k = m + 1 := ⟨k - 1, by omega⟩
        exact hr k (by omega)
      · obtain ⟨r, hr⟩ := ih (i + 1) (by omega)
        refine ⟨r, fun k hk => ?_⟩
        obtain ⟨k, rfl⟩ : ∃ m, k = m + 1 := ⟨k - 1, by omega⟩
        rw [h k (by omega)]
        exact hr k (by omega)
  exact main n 0 (by omega)

end Go.Proofs.Ytkgnfbockgcdpaa.Pure
