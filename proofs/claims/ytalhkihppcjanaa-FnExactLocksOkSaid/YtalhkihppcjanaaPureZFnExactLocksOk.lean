/- The program's LocksOk returns what the reference's returns, for all arguments; no condition. -/
import Derived.Test.YtalhkihppcjanaaVMore
import Derived.Test.YtalhkihppcjanaaX0
import Derived.Test.YtalhkihppcjanaaZFnExactLocksOk5
set_option linter.unusedVariables false
set_option linter.unusedSimpArgs false
namespace Go.Proofs.Ytalhkihppcjanaa.Pure
open Go.RowKit Go.Proofs.YtalhkihppcjanaaV.PrintWords Go.Proofs.YtalhkihppcjanaaV.PrintLast Go.Proofs.YtalhkihppcjanaaV.PrintMore

theorem w64g {n : Int} (h : -9223372036854775808 ≤ n ∧ n ≤ 9223372036854775807) : wrap64 n = n := by unfold wrap64; omega
theorem scan_all (F : Nat → Int → Option Bool) (n K : Nat) (G : Nat → Prop) (fin : Bool)
    (h1 : ∀ k j, K ≤ k → j < n → G j → F (k + 1) (j : Int) = F k ((j + 1 : Nat) : Int))
    (h2 : ∀ k j, K ≤ k → j < n → ¬ G j → F (k + 1) (j : Int) = some false)
    (h3 : ∀ k, K ≤ k → F (k + 1) (n : Int) = some fin) :
    ∃ b, (∀ k, n + 1 + K ≤ k → F k 0 = some b) ∧ (b = true ↔ ((∀ j, j < n → G j) ∧ fin = true)) := by
  have main : ∀ d i, i + d = n → ∃ b, (∀ k, d + 1 + K ≤ k → F k (i : Int) = some b) ∧ (b = true ↔ ((∀ j, i ≤ j → j < n → G j) ∧ fin = true)) := by
    intro d
    induction d with
    | zero =>
      intro i hi
      have hi : i = n := by omega
      subst hi
      refine ⟨fin, fun k hk => ?_, ⟨fun h => ⟨fun j h1 h2 => by omega, h⟩, fun h => h.2⟩⟩
      obtain ⟨k, rfl⟩ : ∃ m, k = m + 1 := ⟨k - 1, by omega⟩
      exact h3 k (by omega)
    | succ d ih =>
      intro i hi
      by_cases g : G i
      · obtain ⟨b, hb, hb'⟩ := ih (i + 1) (by omega)
        refine ⟨b, fun k hk => ?_, ?_⟩
        · obtain ⟨k, rfl⟩ : ∃ m, k = m + 1 := ⟨k - 1, by omega⟩
          rw [h1 k i (by omega) (by omega) g]
          exact hb k (by omega)
        · rw [hb']
          constructor
          · intro h
            refine ⟨fun j hj hj' => ?_, h.2⟩
            by_cases e : j = i
            · rw [e]; exact g
            · exact h.1 j (by omega) hj'
          · intro h
            exact ⟨fun j hj hj' => h.1 j (by omega) hj', h.2⟩
      · refine ⟨false, fun k hk => ?_, ?_⟩
        · obtain ⟨k, rfl⟩ : ∃ m, k = m + 1 := ⟨k - 1, by omega⟩
          exact h2 k i (by omega) (by omega) g
        · constructor
          · intro h
            cases h
          · intro h
            exact absurd (h.1 i (Nat.le_refl _) (by omega)) g
  obtain ⟨b, hb, hb'⟩ := main n 0 (by omega)
  refine ⟨b, hb, ?_⟩
  rw [hb']
  constructor
  · intro h; exact ⟨fun j hj => h.1 j (by omega) hj, h.2⟩
  · intro h; exact ⟨fun j _ hj => h.1 j hj, h.2⟩
theorem go_all {α : Type} (F : Nat → Int → Option α) (n K c : Nat) (r : α)
    (h1 : ∀ k j, K ≤ k → j < n → F (k + c) (j : Int) = F k ((j + 1 : Nat) : Int))
    (h3 : ∀ k, K ≤ k → F (k + c) (n : Int) = some r) : ∀ k, K + c * (n + 1) ≤ k → F k 0 = some r := by
  have main : ∀ d i, i + d = n → ∀ k, K + c * (d + 1) ≤ k → F k (i : Int) = some r := by
    intro d
    induction d with
    | zero =>
      intro i hi k hk
      have hi : i = n := by omega
      subst hi
      obtain ⟨k, rfl⟩ : ∃ m, k = m + c := ⟨k - c, by omega⟩
      exact h3 k (by omega)
    | succ d ih =>
      intro i hi k hk
      have e : c * (d + 1 + 1) = c * (d + 1) + c := Nat.mul_succ _ _
      obtain ⟨k, rfl⟩ : ∃ m, k = m + c := ⟨k - c, by omega⟩
      rw [h1 k i (by omega) (by omega)]
      exact ih (i + 1) (by omega) k (by omega)
  exact main n 0 (by omega)
theorem copy_all {β : Type} (F : Nat → List β → Int → Option (List β)) (L : List β) (x0 : List β) (hx : x0.length = L.length) (d : β)
    (h1 : ∀ k (x : List β) j, j < L.length → x.length = L.length → F (k + 1) x (j : Int) = F k (x.set j (L.getD j d)) ((j + 1 : Nat) : Int))
    (h3 : ∀ k x, x.length = L.length → F (k + 1) x (L.length : Int) = some x) : ∀ k, L.length + 1 ≤ k → F k x0 0 = some L := by
  have main : ∀ e i, i + e = L.length → ∀ k, e + 1 ≤ k → F k (L.take i ++ x0.drop i) (i : Int) = some L := by
    intro e
    induction e with
    | zero =>
      intro i hi k hk
      have hi : i = L.length := by omega
      subst hi
      obtain ⟨k, rfl⟩ : ∃ m, k = m + 1 := ⟨k - 1, by omega⟩
      rw [h3 k _ (by simp [hx]), List.take_length, List.drop_of_length_le (by omega), List.append_nil]
    | succ e ih =>
      intro i hi k hk
      obtain ⟨k, rfl⟩ : ∃ m, k = m + 1 := ⟨k - 1, by omega⟩
      have hlen : (L.take i ++ x0.drop i).length = L.length := by
        rw [List.length_append, List.length_take, List.length_drop]
        omega
      rw [h1 k _ i (by omega) hlen]
      have hi' : i < L.length := by omega
      have hi2 : i < x0.length := by omega
      have e2 : (L.take i ++ x0.drop i).set i (L.getD i d) = L.take (i + 1) ++ x0.drop (i + 1) := by
        rw [List.set_append_right _ _ (by rw [List.length_take]; omega), List.length_take, show i - min i L.length = 0 by omega, List.drop_eq_getElem_cons hi2, List.set_cons_zero]
        rw [List.take_succ_eq_append_getElem hi', List.append_assoc]
        congr 1
        rw [List.getD_eq_getElem?_getD, List.getElem?_eq_getElem hi']
        rfl
      rw [e2]
      exact ih (i + 1) (by omega) k (by omega)
  intro k hk
  have := main L.length 0 (by omega) k hk
  simpa using this
theorem chain_iff {α : Type} (d : α) (Q : α → Prop) (R : α → α → Prop) (tr : ∀ a b c, R a b → R b c → R a c) (l : List α) :
    (∀ j, j < l.length → Q (l.getD j d) ∧ (0 < j → R (l.getD (j - 1) d) (l.getD j d))) ↔ ((∀ x ∈ l, Q x) ∧ l.Pairwise R) := by
  have gd : ∀ j (h : j < l.length), l.getD j d = l[j] := by
    intro j h
    rw [List.getD_eq_getElem?_getD, List.getElem?_eq_getElem h]
    rfl
  constructor
  · intro h
    refine ⟨fun x hx => ?_, ?_⟩
    · obtain ⟨j, hj, rfl⟩ := List.getElem_of_mem hx
      rw [← gd j hj]
      exact (h j hj).1
    · rw [List.pairwise_iff_getElem]
      have main : ∀ e i (hi : i < l.length) (hj : i + e + 1 < l.length), R l[i] l[i + e + 1] := by
        intro e
        induction e with
        | zero =>
          intro i hi hj
          have := (h (i + 0 + 1) hj).2 (by omega)
          rw [gd _ (show i + 0 + 1 - 1 < l.length by omega), gd _ hj] at this
          exact this
        | succ e ih =>
          intro i hi hj
          have h1 := ih i hi (by omega)
          have := (h (i + (e + 1) + 1) hj).2 (by omega)
          rw [gd _ (show i + (e + 1) + 1 - 1 < l.length by omega), gd _ hj] at this
          exact tr _ _ _ h1 this
      intro i j hi hj hij
      obtain ⟨e, rfl⟩ : ∃ e, j = i + e + 1 := ⟨j - i - 1, by omega⟩
      exact main e i hi hj
  · intro h j hj
    refine ⟨?_, fun h0 => ?_⟩
    · rw [gd j hj]
      exact h.1 _ (List.getElem_mem hj)
    · rw [gd j hj, gd (j - 1) (by omega)]
      exact List.pairwise_iff_getElem.1 h.2 (j - 1) j (by omega) hj (by omega)
/-- What holds of a chain holds of the chain without one of its elements. -/
theorem chain_less {α : Type} {Q : α → Prop} {R : α → α → Prop} {l : List α} (h : (∀ x ∈ l, Q x) ∧ l.Pairwise R) (a b : Nat) (hab : a ≤ b) :
    (∀ x ∈ l.take a ++ l.drop b, Q x) ∧ (l.take a ++ l.drop b).Pairwise R := by
  have sub : (l.take a ++ l.drop b).Sublist l := by
    have h1 : (l.take a ++ l.drop b).Sublist (l.take a ++ l.drop a) := by
      apply List.Sublist.append (List.Sublist.refl _)
      rw [show b = a + (b - a) by omega, ← List.drop_drop]
      exact List.drop_sublist _ _
    rwa [List.take_append_drop] at h1
  exact ⟨fun x hx => h.1 x (sub.subset hx), h.2.sublist sub⟩
theorem go_all2 {α : Type} (F : Nat → Int → Option α) (n K : Nat) (r : α)
    (h1 : ∀ k j, K ≤ k → j < n → F (k + 1 + 1) (j : Int) = F k ((j + 1 : Nat) : Int))
    (h3 : ∀ k, K ≤ k → F (k + 1 + 1) (n : Int) = some r) : ∀ k, K + 2 * (n + 1) ≤ k → F k 0 = some r :=
  go_all F n K 2 r h1 h3
theorem any_ok {α : Type} (F : Nat → Int → Option α) (n K : Nat)
    (h1 : ∀ j, j < n → (∃ r, ∀ k, K ≤ k → F (k + 1) (j : Int) = some r) ∨ (∀ k, K ≤ k → F (k + 1) (j : Int) = F k ((j + 1 : Nat) : Int)))
    (h3 : ∃ r, ∀ k, K ≤ k → F (k + 1) (n : Int) = some r) : ∃ r, ∀ k, n + 1 + K ≤ k → F k 0 = some r := by
  have main : ∀ d i, i + d = n → ∃ r, ∀ k, d + 1 + K ≤ k → F k (i : Int) = some r := by
    intro d
    induction d with
    | zero =>
      intro i hi
      have hi : i = n := by omega
      subst hi
      obtain ⟨r, hr⟩ := h3
      refine ⟨r, fun k hk => ?_⟩
      obtain ⟨k, rfl⟩ : ∃ m, k = m + 1 := ⟨k - 1, by omega⟩
      exact hr k (by omega)
    | succ d ih =>
      intro i hi
      rcases h1 i (by omega) with ⟨r, hr⟩ | h
      · refine ⟨r, fun k hk => ?_⟩
        obtain ⟨k, rfl⟩ : ∃ m, k = m + 1 := ⟨k - 1, by omega⟩
        exact hr k (by omega)
      · obtain ⟨r, hr⟩ := ih (i + 1) (by omega)
        refine ⟨r, fun k hk => ?_⟩
        obtain ⟨k, rfl⟩ : ∃ m, k = m + 1 := ⟨k - 1, by omega⟩
        rw [h k (by omega)]
        exact hr k (by omega)
  exact main n 0 (by omega)

end Go.Proofs.Ytalhkihppcjanaa.Pure
set_option linter.unusedVariables false
set_option linter.unusedSimpArgs false
namespace Go.Proofs.Ytalhkihppcjanaa.Pure
open Go.RowKit Go.Proofs.Ytalhkihppcjanaa.X Go.Proofs.YtalhkihppcjanaaV.PrintWords Go.Proofs.YtalhkihppcjanaaV.PrintLast Go.Proofs.YtalhkihppcjanaaV.PrintMore

theorem l1In_eq (a lo hi : Int) : spec_l1In.f a lo hi = some (decide (lo ≤ a ∧ a ≤ hi)) := by
  unfold spec_l1In.f
  by_cases h : a ≥ lo
  · rw [if_pos h]
    by_cases g : a ≤ hi
    · rw [decide_eq_true g, decide_eq_true ⟨h, g⟩]
    · rw [decide_eq_false g, decide_eq_false (fun h' => g h'.2)]
  · rw [if_neg h, decide_eq_false (fun h' => h h'.1)]

end Go.Proofs.Ytalhkihppcjanaa.Pure
set_option linter.unusedVariables false
set_option linter.unusedSimpArgs false
namespace Go.Proofs.Ytalhkihppcjanaa.Pure
open Go.RowKit Go.Proofs.Ytalhkihppcjanaa.X Go.Proofs.YtalhkihppcjanaaV.PrintWords Go.Proofs.YtalhkihppcjanaaV.PrintLast Go.Proofs.YtalhkihppcjanaaV.PrintMore

/-- A scan whose rounds cost not all the same. -/
theorem scan_gen (F : Nat → Nat → Option Bool) (n C C3 : Nat) (G : Nat → Prop) (fin : Bool)
    (h1 : ∀ j, j < n → G j → ∀ b K, (∀ k, K ≤ k → F k (j + 1) = some b) → ∀ k, K + C ≤ k → F k j = some b)
    (h2 : ∀ j, j < n → ¬ G j → ∀ k, C ≤ k → F k j = some false)
    (h3 : ∀ k, C3 ≤ k → F k n = some fin) :
    ∃ b, (∀ k, C3 + C * (n + 1) ≤ k → F k 0 = some b) ∧ (b = true ↔ ((∀ j, j < n → G j) ∧ fin = true)) := by
  have main : ∀ d i, i + d = n → ∃ b, (∀ k, C3 + C * (d + 1) ≤ k → F k i = some b) ∧ (b = true ↔ ((∀ j, i ≤ j → j < n → G j) ∧ fin = true)) := by
    intro d
    induction d with
    | zero =>
      intro i hi
      have hi : i = n := by omega
      subst hi
      exact ⟨fin, fun k hk => h3 k (by omega), ⟨fun h => ⟨fun j h1 h2 => by omega, h⟩, fun h => h.2⟩⟩
    | succ d ih =>
      intro i hi
      have e : C * (d + 1 + 1) = C * (d + 1) + C := Nat.mul_succ _ _
      by_cases g : G i
      · obtain ⟨b, hb, hb'⟩ := ih (i + 1) (by omega)
        refine ⟨b, fun k hk => h1 i (by omega) g b _ hb k (by omega), ?_⟩
        rw [hb']
        constructor
        · intro h
          refine ⟨fun j hj hj' => ?_, h.2⟩
          by_cases e : j = i
          · rw [e]; exact g
          · exact h.1 j (by omega) hj'
        · intro h
          exact ⟨fun j hj hj' => h.1 j (by omega) hj', h.2⟩
      · refine ⟨false, fun k hk => h2 i (by omega) g k (by omega), ?_⟩
        constructor
        · intro h
          cases h
        · intro h
          exact absurd (h.1 i (Nat.le_refl _) (by omega)) g
  obtain ⟨b, hb, hb'⟩ := main n 0 (by omega)
  refine ⟨b, hb, ?_⟩
  rw [hb']
  constructor
  · intro h; exact ⟨fun j hj => h.1 j (by omega) hj, h.2⟩
  · intro h; exact ⟨fun j _ hj => h.1 j hj, h.2⟩
abbrev gA (l : List S61) (j : Nat) : S61 := l.getD j z61
theorem rdA (l : List S61) (j : Nat) : rd_T61 l (j : Int) = gA l j := rfl
theorem any_iff (l : List S61) (p : S61 → Bool) : l.any p = true ↔ ∃ i, i < l.length ∧ p (gA l i) = true := by
  rw [List.any_eq_true]
  constructor
  · rintro ⟨x, hx, hp⟩
    obtain ⟨i, hi, rfl⟩ := List.getElem_of_mem hx
    exact ⟨i, hi, by unfold gA; rw [List.getD_eq_getElem?_getD, List.getElem?_eq_getElem hi]; exact hp⟩
  · rintro ⟨i, hi, hp⟩
    unfold gA at hp
    rw [List.getD_eq_getElem?_getD, List.getElem?_eq_getElem hi] at hp
    exact ⟨l[i], List.getElem_mem hi, hp⟩
theorem g_take (l : List S61) (j i : Nat) (hi : i < j) : gA (l.take j) i = gA l i := by
  unfold gA
  rw [List.getD_eq_getElem?_getD, List.getD_eq_getElem?_getD, List.getElem?_take, if_pos hi]
theorem any_take_iff (l : List S61) (j : Nat) (hj : j ≤ l.length) (p : S61 → Bool) : (l.take j).any p = true ↔ ∃ i, i < j ∧ p (gA l i) = true := by
  rw [any_iff, List.length_take, Nat.min_eq_left hj]
  constructor
  · rintro ⟨i, hi, hp⟩
    exact ⟨i, hi, by rw [g_take l j i hi] at hp; exact hp⟩
  · rintro ⟨i, hi, hp⟩
    exact ⟨i, hi, by rw [g_take l j i hi]; exact hp⟩
theorem agn_iff (a b : S61) : lk_agn a b = true ↔ a.f1 = b.f1 ∧ a.f0 ≠ b.f0 ∧ (a.f2 = 2 ∨ b.f2 = 2) := by
  unfold lk_agn
  simp
theorem agn_symm (a b : S61) (h : lk_agn a b = true) : lk_agn b a = true := by
  rw [agn_iff] at h ⊢
  exact ⟨h.1.symm, fun e => h.2.1 e.symm, h.2.2.symm⟩
theorem agn_comm (a b : S61) : lk_agn a b = lk_agn b a := by
  rw [Bool.eq_iff_iff]
  exact ⟨agn_symm a b, agn_symm b a⟩
theorem same_iff (a b : S61) : lk_same a b = true ↔ b.f0 = a.f0 ∧ b.f1 = a.f1 := by
  unfold lk_same
  simp
theorem ok_iff (a : S61) : lk_ok a = true ↔ (0 ≤ a.f0 ∧ a.f0 ≤ 3) ∧ (0 ≤ a.f1 ∧ a.f1 ≤ 4) ∧ (1 ≤ a.f2 ∧ a.f2 ≤ 2) := by
  unfold lk_ok
  simp
theorem cov_iff (b a : S61) : lk_cov b a = true ↔ b.f1 = a.f1 ∧ b.f0 = a.f0 ∧ a.f2 ≤ b.f2 := by
  unfold lk_cov
  simp
theorem not_true {b : Bool} : (!b) = true ↔ ¬ b = true := by cases b <;> simp
theorem heldAt_iff (h : List S61) (j : Nat) (hj : j < h.length) : lk_heldAt h j = true ↔ lk_ok (gA h j) = true ∧ ∀ i, i < j → ¬ ((gA h i).f0 = (gA h j).f0 ∧ (gA h i).f1 = (gA h j).f1) ∧ ¬ lk_agn (gA h i) (gA h j) = true := by
  unfold lk_heldAt
  rw [Bool.and_eq_true, not_true, any_take_iff h j (by omega)]
  constructor
  · rintro ⟨h1, h2⟩
    refine ⟨h1, fun i hi => ⟨fun g => h2 ⟨i, hi, ?_⟩, fun g => h2 ⟨i, hi, ?_⟩⟩⟩
    · show (lk_same _ _ || lk_agn _ _) = true
      rw [(same_iff (gA h j) (gA h i)).2 g]
      rfl
    · show (lk_same _ _ || lk_agn _ _) = true
      rw [g, Bool.or_true]
  · rintro ⟨h1, h2⟩
    refine ⟨h1, ?_⟩
    rintro ⟨i, hi, g⟩
    have g' : (lk_same (gA h j) (gA h i) || lk_agn (gA h i) (gA h j)) = true := g
    rw [Bool.or_eq_true] at g'
    rcases g' with g' | g'
    · exact (h2 i hi).1 ((same_iff _ _).1 g')
    · exact (h2 i hi).2 g'
theorem queueAt_iff (h q : List S61) (j : Nat) (hj : j < q.length) : lk_queueAt h q j = true ↔ lk_ok (gA q j) = true ∧ (∀ i, i < j → (gA q i).f0 ≠ (gA q j).f0) ∧ (¬ ∃ i, i < h.length ∧ lk_cov (gA h i) (gA q j) = true) ∧ lk_free h (gA q j) (q.take j) = false := by
  unfold lk_queueAt
  rw [Bool.and_eq_true, Bool.and_eq_true, Bool.and_eq_true, not_true, not_true, not_true, any_take_iff q j (by omega), any_iff, Bool.not_eq_true (lk_free _ _ _)]
  constructor
  · rintro ⟨h1, h2, h3, h4⟩
    refine ⟨h1, fun i hi e => h2 ⟨i, hi, ?_⟩, h3, h4⟩
    show ((gA q i).f0 == (gA q j).f0) = true
    exact beq_iff_eq.2 e
  · rintro ⟨h1, h2, h3, h4⟩
    refine ⟨h1, ?_, h3, h4⟩
    rintro ⟨i, hi, g⟩
    exact h2 i hi (beq_iff_eq.1 g)
theorem all_iff (h q : List S61) : lk_all h q = true ↔ (∀ j, j < h.length → lk_heldAt h j = true) ∧ (∀ j, j < q.length → lk_queueAt h q j = true) := by
  unfold lk_all
  rw [Bool.and_eq_true, List.all_eq_true, List.all_eq_true]
  constructor
  · rintro ⟨h1, h2⟩
    exact ⟨fun j hj => h1 j (List.mem_range.2 hj), fun j hj => h2 j (List.mem_range.2 hj)⟩
  · rintro ⟨h1, h2⟩
    exact ⟨fun j hj => h1 j (List.mem_range.1 hj), fun j hj => h2 j (List.mem_range.1 hj)⟩
/-! The reference's parts. -/
theorem ask_eq (a : S61) : spec_l17Ask.f a.f0 a.f1 a.f2 = some (lk_ok a) := by
  unfold spec_l17Ask.f lk_ok
  simp only [l1In_eq, Option.bind_some]
  by_cases h0 : 0 ≤ a.f0 ∧ a.f0 ≤ 3
  · rw [decide_eq_true h0, if_pos rfl, Bool.true_and]
    by_cases h1 : 0 ≤ a.f1 ∧ a.f1 ≤ 4
    · rw [decide_eq_true h1, if_pos rfl, Bool.true_and]
    · rw [decide_eq_false h1, if_neg (by decide), Bool.false_and]
  · rw [decide_eq_false h0, if_neg (by decide), Bool.false_and]
theorem against_eq (a b : S61) : spec_l17Against.f a.f0 a.f1 a.f2 b.f0 b.f1 b.f2 = some (lk_agn a b) := by
  unfold spec_l17Against.f lk_agn
  by_cases h0 : a.f0 = b.f0
  · simp [h0]
  · have e0 : (a.f0 == b.f0) = false := beq_eq_false_iff_ne.2 h0
    rw [if_neg h0, e0]
    by_cases h1 : a.f1 = b.f1
    · have e1 : (a.f1 == b.f1) = true := beq_iff_eq.2 h1
      rw [if_pos h1, e1]
      by_cases h2 : a.f2 = 2
      · have e2 : (a.f2 == 2) = true := beq_iff_eq.2 h2
        rw [if_pos h2, e2]
        rfl
      · have e2 : (a.f2 == 2) = false := beq_eq_false_iff_ne.2 h2
        rw [if_neg h2, e2]
        rfl
    · have e1 : (a.f1 == b.f1) = false := beq_eq_false_iff_ne.2 h1
      rw [if_neg h1, e1]
      rfl
theorem w1 (j : Nat) (hj : j < 1048577) : wrap64 ((j : Int) + 1) = ((j + 1 : Nat) : Int) := by rw [w64g (by omega)]; omega
theorem blocked_ok (l : List S61) (hl : l.length ≤ 1048576) (a : S61) : ∃ t, (∀ k, 1048578 ≤ k → spec_l17Blocked.f k l a.f0 a.f1 a.f2 = some t) ∧ (t = true ↔ ∃ i, i < l.length ∧ lk_agn (gA l i) a = true) := by
  have main : ∀ d i, i + d = l.length → ∃ t, (∀ k, d + 1 ≤ k → spec_l17Blocked.l0 k l (i : Int) a.f0 a.f1 a.f2 = some t) ∧ (t = true ↔ ∃ j, i ≤ j ∧ j < l.length ∧ lk_agn (gA l j) a = true) := by
    intro d
    induction d with
    | zero =>
      intro i hi
      refine ⟨false, fun k hk => ?_, ⟨fun h => (by cases h), fun ⟨j, h1, h2, _⟩ => by omega⟩⟩
      obtain ⟨k, rfl⟩ : ∃ m, k = m + 1 := ⟨k - 1, by omega⟩
      rw [spec_l17Blocked.l0, if_neg (by omega)]
    | succ d ih =>
      intro i hi
      obtain ⟨t, ht, ht'⟩ := ih (i + 1) (by omega)
      cases hb : lk_agn (gA l i) a with
      | true =>
        refine ⟨true, fun k hk => ?_, ⟨fun _ => ⟨i, Nat.le_refl _, by omega, hb⟩, fun _ => rfl⟩⟩
        obtain ⟨k, rfl⟩ : ∃ m, k = m + 1 := ⟨k - 1, by omega⟩
        rw [spec_l17Blocked.l0, if_pos (by omega), if_pos (by omega), rdA, against_eq, hb, Option.bind_some, if_pos rfl]
      | false =>
        refine ⟨t, fun k hk => ?_, ?_⟩
        · obtain ⟨k, rfl⟩ : ∃ m, k = m + 1 := ⟨k - 1, by omega⟩
          rw [spec_l17Blocked.l0, if_pos (by omega), if_pos (by omega), rdA, against_eq, hb, Option.bind_some, if_neg (by decide), w1 i (by omega)]
          exact ht k (by omega)
        · rw [ht']
          constructor
          · rintro ⟨j, h1, h2, h3⟩
            exact ⟨j, by omega, h2, h3⟩
          · rintro ⟨j, h1, h2, h3⟩
            refine ⟨j, ?_, h2, h3⟩
            by_cases e : j = i
            · subst e
              rw [hb] at h3
              cases h3
            · omega
  obtain ⟨t, ht, ht'⟩ := main l.length 0 (by omega)
  refine ⟨t, fun k hk => ht k (by omega), ?_⟩
  rw [ht']
  constructor
  · rintro ⟨j, _, h2, h3⟩; exact ⟨j, h2, h3⟩
  · rintro ⟨j, h2, h3⟩; exact ⟨j, by omega, h2, h3⟩
/-- The kind of the first lock of a transaction and key; 0 without any. -/
theorem held_ok (l : List S61) (hl : l.length ≤ 1048576) (who key : Int) : ∃ r, (∀ k, 1048578 ≤ k → spec_l17Held.f k l who key = some r) ∧
    ((∃ i, i < l.length ∧ ((gA l i).f0 = who ∧ (gA l i).f1 = key) ∧ (∀ j, j < i → ¬ ((gA l j).f0 = who ∧ (gA l j).f1 = key)) ∧ r = (gA l i).f2) ∨ ((∀ i, i < l.length → ¬ ((gA l i).f0 = who ∧ (gA l i).f1 = key)) ∧ r = 0)) := by
  have main : ∀ d i, i + d = l.length → (∀ j, j < i → ¬ ((gA l j).f0 = who ∧ (gA l j).f1 = key)) → ∃ r, (∀ k, d + 1 ≤ k → spec_l17Held.l0 k l who key (i : Int) = some r) ∧
    ((∃ i, i < l.length ∧ ((gA l i).f0 = who ∧ (gA l i).f1 = key) ∧ (∀ j, j < i → ¬ ((gA l j).f0 = who ∧ (gA l j).f1 = key)) ∧ r = (gA l i).f2) ∨ ((∀ i, i < l.length → ¬ ((gA l i).f0 = who ∧ (gA l i).f1 = key)) ∧ r = 0)) := by
    intro d
    induction d with
    | zero =>
      intro i hi hno
      refine ⟨0, fun k hk => ?_, .inr ⟨fun j hj => hno j (by omega), rfl⟩⟩
      obtain ⟨k, rfl⟩ : ∃ m, k = m + 1 := ⟨k - 1, by omega⟩
      rw [spec_l17Held.l0, if_neg (by omega)]
    | succ d ih =>
      intro i hi hno
      by_cases hm : (gA l i).f0 = who ∧ (gA l i).f1 = key
      · refine ⟨(gA l i).f2, fun k hk => ?_, .inl ⟨i, by omega, hm, hno, rfl⟩⟩
        obtain ⟨k, rfl⟩ : ∃ m, k = m + 1 := ⟨k - 1, by omega⟩
        rw [spec_l17Held.l0, if_pos (by omega), if_pos (by omega), rdA, if_pos hm.1, if_pos hm.2]
      · obtain ⟨r, hr, hr'⟩ := ih (i + 1) (by omega) (fun j hj => by
          by_cases e : j = i
          · rw [e]; exact hm
          · exact hno j (by omega))
        refine ⟨r, fun k hk => ?_, hr'⟩
        obtain ⟨k, rfl⟩ : ∃ m, k = m + 1 := ⟨k - 1, by omega⟩
        rw [spec_l17Held.l0, if_pos (by omega), if_pos (by omega), rdA, w1 i (by omega), hr k (by omega)]
        by_cases h0 : (gA l i).f0 = who
        · rw [if_pos h0, if_neg (fun h1 => hm ⟨h0, h1⟩)]
        · rw [if_neg h0]
  obtain ⟨r, hr, hr'⟩ := main l.length 0 (by omega) (fun j hj => by omega)
  exact ⟨r, fun k hk => hr k (by omega), hr'⟩
theorem ready_ok (h ah : List S61) (hh : h.length ≤ 1048576) (ha : ah.length ≤ 1048576) (a : S61) : ∀ k, 3000000 ≤ k → spec_l17Ready.f k h ah a.f0 a.f1 a.f2 = some (lk_free h a ah) := by
  obtain ⟨t, ht, ht'⟩ := blocked_ok h hh a
  have hB : h.any (lk_agn a) = t := by
    rw [Bool.eq_iff_iff, any_iff, ht']
    constructor
    · rintro ⟨i, hi, g⟩; exact ⟨i, hi, agn_symm _ _ g⟩
    · rintro ⟨i, hi, g⟩; exact ⟨i, hi, agn_symm _ _ g⟩
  have main : ∀ d i, i + d = ah.length → (∀ j, j < i → lk_ahead a (gA ah j) = false) → ∀ k, d + 1048580 ≤ k → spec_l17Ready.l0 k h ah (i : Int) a.f0 a.f1 a.f2 = some (lk_free h a ah) := by
    intro d
    induction d with
    | zero =>
      intro i hi hno k hk
      obtain ⟨k, rfl⟩ : ∃ m, k = m + 1 := ⟨k - 1, by omega⟩
      rw [spec_l17Ready.l0, if_neg (by omega), ht k (by omega), Option.bind_some]
      have hA : ah.any (lk_ahead a) = false := by
        rw [← Bool.not_eq_true, any_iff]
        rintro ⟨j, hj, g⟩
        rw [hno j (by omega)] at g
        cases g
      unfold lk_free
      rw [hB, hA]
      simp
    | succ d ih =>
      intro i hi hno k hk
      obtain ⟨k, rfl⟩ : ∃ m, k = m + 1 := ⟨k - 1, by omega⟩
      have next : lk_ahead a (gA ah i) = false → spec_l17Ready.l0 k h ah ((i + 1 : Nat) : Int) a.f0 a.f1 a.f2 = some (lk_free h a ah) := fun hn => ih (i + 1) (by omega) (fun j hj => by
        by_cases e : j = i
        · rw [e]; exact hn
        · exact hno j (by omega)) k (by omega)
      rw [spec_l17Ready.l0, if_pos (by omega), if_pos (by omega), rdA, w1 i (by omega)]
      by_cases h1 : (gA ah i).f1 = a.f1
      · rw [if_pos h1]
        by_cases h0 : (gA ah i).f0 = a.f0
        · rw [if_pos h0]
          exact next (by show ((gA ah i).f1 == a.f1 && !((gA ah i).f0 == a.f0)) = false; rw [beq_iff_eq.2 h0]; simp)
        · rw [if_neg h0]
          have hA : ah.any (lk_ahead a) = true := by
            rw [any_iff]
            exact ⟨i, by omega, by show ((gA ah i).f1 == a.f1 && !((gA ah i).f0 == a.f0)) = true; rw [beq_iff_eq.2 h1, beq_eq_false_iff_ne.2 h0]; rfl⟩
          unfold lk_free
          rw [hA]
          simp
      · rw [if_neg h1]
        exact next (by show ((gA ah i).f1 == a.f1 && !((gA ah i).f0 == a.f0)) = false; rw [beq_eq_false_iff_ne.2 h1]; rfl)
  intro k hk
  exact main ah.length 0 (by omega) (fun j hj => by omega) k (by omega)
/-! The reference whole. -/
def G1 (h : List S61) (j : Nat) : Prop := lk_ok (gA h j) = true ∧ (∀ r, (∀ k, 1048578 ≤ k → spec_l17Held.f k (h.take j) (gA h j).f0 (gA h j).f1 = some r) → ¬ r > 0) ∧ ¬ ∃ i, i < h.length ∧ lk_agn (gA h i) (gA h j) = true
def G2 (h q : List S61) (j : Nat) : Prop := lk_ok (gA q j) = true ∧ (∀ r, (∀ k, 1048578 ≤ k → spec_l17Held.f k h (gA q j).f0 (gA q j).f1 = some r) → ¬ r ≥ (gA q j).f2) ∧ lk_free h (gA q j) (q.take j) = false ∧ ∀ i, i < j → (gA q i).f0 ≠ (gA q j).f0
theorem l2_yes (h q : List S61) (hq : q.length ≤ 1048576) (j : Nat) (hj : j < q.length) (a0 a1 a2 : Int) (hno : ∀ i, i < j → (gA q i).f0 ≠ a0) (b : Bool) (K : Nat) (hK : ∀ k, K ≤ k → spec_LocksOk.l1 k ((j + 1 : Nat) : Int) h q = some b) : ∀ d i, i + d = j → ∀ k, K + d + 1 ≤ k → spec_LocksOk.l2 k (j : Int) (i : Int) h q a0 a1 a2 = some b := by
  intro d
  induction d with
  | zero =>
    intro i hi k hk
    obtain ⟨k, rfl⟩ : ∃ m, k = m + 1 := ⟨k - 1, by omega⟩
    rw [spec_LocksOk.l2, if_neg (by omega), w1 j (by omega)]
    exact hK k (by omega)
  | succ d ih =>
    intro i hi k hk
    obtain ⟨k, rfl⟩ : ∃ m, k = m + 1 := ⟨k - 1, by omega⟩
    rw [spec_LocksOk.l2, if_pos (by omega), if_pos (by omega), if_pos (by omega), rdA, if_neg (hno i (by omega)), w1 i (by omega)]
    exact ih (i + 1) (by omega) k (by omega)
theorem l2_no (h q : List S61) (hq : q.length ≤ 1048576) (j : Nat) (hj : j < q.length) (a0 a1 a2 : Int) : ∀ d i, i + d = j → (∃ m, i ≤ m ∧ m < j ∧ (gA q m).f0 = a0) → ∀ k, d + 1 ≤ k → spec_LocksOk.l2 k (j : Int) (i : Int) h q a0 a1 a2 = some false := by
  intro d
  induction d with
  | zero =>
    intro i hi ⟨m, h1, h2, _⟩
    omega
  | succ d ih =>
    intro i hi ⟨m, h1, h2, h3⟩ k hk
    obtain ⟨k, rfl⟩ : ∃ m, k = m + 1 := ⟨k - 1, by omega⟩
    rw [spec_LocksOk.l2, if_pos (by omega), if_pos (by omega), if_pos (by omega), rdA, w1 i (by omega)]
    by_cases e : (gA q i).f0 = a0
    · rw [if_pos e]
    · rw [if_neg e]
      refine ih (i + 1) (by omega) ⟨m, ?_, h2, h3⟩ k (by omega)
      by_cases e2 : m = i
      · subst e2
        exact absurd h3 e
      · omega
theorem spec_queue (h q : List S61) (hh : h.length ≤ 1048576) (hq : q.length ≤ 1048576) : ∃ b K0, (∀ k, K0 ≤ k → spec_LocksOk.l1 k 0 h q = some b) ∧ (b = true ↔ ∀ j, j < q.length → G2 h q j) := by
  have key := scan_gen (fun k i => spec_LocksOk.l1 k (i : Int) h q) q.length 10000000 10000000 (G2 h q) true ?_ ?_ ?_
  · obtain ⟨b, hb, hb'⟩ := key
    refine ⟨b, _, hb, ?_⟩
    rw [hb']
    exact ⟨fun g => g.1, fun g => ⟨g, rfl⟩⟩
  · rintro j hj ⟨g1, g2, g3, g4⟩ b K hK k hk
    obtain ⟨r, hr, _⟩ := held_ok h hh (gA q j).f0 (gA q j).f1
    have g2 := g2 r hr
    obtain ⟨k, rfl⟩ : ∃ m, k = m + 1 + 1 := ⟨k - 2, by omega⟩
    show spec_LocksOk.l1 (k + 1 + 1) (j : Int) h q = _
    rw [spec_LocksOk.l1, if_pos (by omega), if_pos (by omega), rdA, ask_eq, g1, Option.bind_some, if_pos rfl, hr _ (by omega), Option.bind_some, if_neg g2, if_pos (by omega), Int.toNat_natCast, ready_ok h (q.take j) hh (by rw [List.length_take]; omega) (gA q j) _ (by omega), Option.bind_some, g3, spec_LocksOk.j2, if_neg (by decide)]
    exact l2_yes h q hq j hj _ _ _ (fun i hi => g4 i hi) b K hK j 0 (by omega) k (by omega)
  · intro j hj hn k hk
    obtain ⟨r, hr, hr'⟩ := held_ok h hh (gA q j).f0 (gA q j).f1
    obtain ⟨k, rfl⟩ : ∃ m, k = m + 1 + 1 := ⟨k - 2, by omega⟩
    show spec_LocksOk.l1 (k + 1 + 1) (j : Int) h q = _
    rw [spec_LocksOk.l1, if_pos (by omega), if_pos (by omega), rdA, ask_eq]
    cases g1 : lk_ok (gA q j) with
    | false => rw [Option.bind_some, if_neg (by decide), spec_LocksOk.j2, if_pos rfl]
    | true =>
      rw [Option.bind_some, if_pos rfl, hr _ (by omega), Option.bind_some]
      by_cases g2 : r ≥ (gA q j).f2
      · rw [if_pos g2, spec_LocksOk.j2, if_pos rfl]
      · rw [if_neg g2, if_pos (by omega), Int.toNat_natCast, ready_ok h (q.take j) hh (by rw [List.length_take]; omega) (gA q j) _ (by omega), Option.bind_some]
        cases g3 : lk_free h (gA q j) (q.take j) with
        | true => rw [spec_LocksOk.j2, if_pos rfl]
        | false =>
          rw [spec_LocksOk.j2, if_neg (by decide)]
          refine l2_no h q hq j hj _ _ _ j 0 (by omega) ?_ k (by omega)
          apply Classical.byContradiction
          intro g4
          refine hn ⟨g1, fun r' hr2 => ?_, g3, fun i hi e => g4 ⟨i, by omega, hi, e⟩⟩
          have : some r = some r' := (hr 1048578 (Nat.le_refl _)).symm.trans (hr2 1048578 (Nat.le_refl _))
          injection this with e
          rw [← e]
          exact g2
  · intro k hk
    obtain ⟨k, rfl⟩ : ∃ m, k = m + 1 := ⟨k - 1, by omega⟩
    show spec_LocksOk.l1 (k + 1) (q.length : Int) h q = _
    rw [spec_LocksOk.l1, if_neg (by omega)]
theorem spec_locks (h q : List S61) (hh : h.length ≤ 1048576) (hq : q.length ≤ 1048576) : ∃ b K0, (∀ k, K0 ≤ k → spec_LocksOk.f k h q = some b) ∧ (b = true ↔ (∀ j, j < h.length → G1 h j) ∧ ∀ j, j < q.length → G2 h q j) := by
  obtain ⟨b2, K2, hb2, hb2'⟩ := spec_queue h q hh hq
  have key := scan_gen (fun k i => spec_LocksOk.l0 k (i : Int) h q) h.length 10000000 (K2 + 1) (G1 h) b2 ?_ ?_ ?_
  · obtain ⟨b, hb, hb'⟩ := key
    refine ⟨b, _, hb, ?_⟩
    rw [hb', hb2']
  · rintro j hj ⟨g1, g2, g3⟩ b K hK k hk
    obtain ⟨r, hr, _⟩ := held_ok (h.take j) (by rw [List.length_take]; omega) (gA h j).f0 (gA h j).f1
    have g2 := g2 r hr
    obtain ⟨t, ht, ht'⟩ := blocked_ok h hh (gA h j)
    obtain rfl : t = false := by
      rw [← Bool.not_eq_true, ht']
      exact g3
    obtain ⟨k, rfl⟩ : ∃ m, k = m + 1 := ⟨k - 1, by omega⟩
    show spec_LocksOk.l0 (k + 1) (j : Int) h q = _
    rw [spec_LocksOk.l0, if_pos (by omega), if_pos (by omega), rdA, ask_eq, g1, Option.bind_some, if_pos rfl, if_pos (by omega), Int.toNat_natCast, hr k (by omega), Option.bind_some, if_neg g2, ht k (by omega), Option.bind_some, if_neg (by decide), w1 j (by omega)]
    exact hK k (by omega)
  · intro j hj hn k hk
    obtain ⟨r, hr, _⟩ := held_ok (h.take j) (by rw [List.length_take]; omega) (gA h j).f0 (gA h j).f1
    obtain ⟨t, ht, ht'⟩ := blocked_ok h hh (gA h j)
    obtain ⟨k, rfl⟩ : ∃ m, k = m + 1 := ⟨k - 1, by omega⟩
    show spec_LocksOk.l0 (k + 1) (j : Int) h q = _
    rw [spec_LocksOk.l0, if_pos (by omega), if_pos (by omega), rdA, ask_eq]
    cases g1 : lk_ok (gA h j) with
    | false => rw [Option.bind_some, if_neg (by decide)]
    | true =>
      rw [Option.bind_some, if_pos rfl, if_pos (by omega), Int.toNat_natCast, hr k (by omega), Option.bind_some]
      by_cases g2 : r > 0
      · rw [if_pos g2]
      · rw [if_neg g2, ht k (by omega), Option.bind_some]
        cases t with
        | true => rw [if_pos rfl]
        | false =>
          refine absurd ⟨g1, fun r' hr2 => ?_, fun g3 => ?_⟩ hn
          · have : some r = some r' := (hr 1048578 (Nat.le_refl _)).symm.trans (hr2 1048578 (Nat.le_refl _))
            injection this with e
            rw [← e]
            exact g2
          · have := ht'.2 g3
            cases this
  · intro k hk
    obtain ⟨k, rfl⟩ : ∃ m, k = m + 1 := ⟨k - 1, by omega⟩
    show spec_LocksOk.l0 (k + 1) (h.length : Int) h q = _
    have h0 := hb2 k (by omega)
    rw [spec_LocksOk.l0, if_neg (by omega)]
    exact h0
/-! Both tell the same. -/
theorem held_same (h : List S61) (hh : h.length ≤ 1048576) : (∀ j, j < h.length → lk_heldAt h j = true) ↔ (∀ j, j < h.length → G1 h j) := by
  constructor
  · intro H j hj
    obtain ⟨h1, h2⟩ := (heldAt_iff h j hj).1 (H j hj)
    refine ⟨h1, fun r hr => ?_, ?_⟩
    · obtain ⟨r', hr', hc⟩ := held_ok (h.take j) (by rw [List.length_take]; omega) (gA h j).f0 (gA h j).f1
      have : some r = some r' := (hr 1048578 (Nat.le_refl _)).symm.trans (hr' 1048578 (Nat.le_refl _))
      injection this with e
      rcases hc with ⟨i, hi, hm, _, _⟩ | ⟨_, h0⟩
      · rw [List.length_take] at hi
        rw [g_take h j i (by omega)] at hm
        exact absurd hm (h2 i (by omega)).1
      · omega
    · rintro ⟨i, hi, g⟩
      rcases Nat.lt_trichotomy i j with h3 | h3 | h3
      · exact (h2 i h3).2 g
      · subst h3
        rw [agn_iff] at g
        exact g.2.1 rfl
      · obtain ⟨_, h4⟩ := (heldAt_iff h i hi).1 (H i hi)
        exact (h4 j h3).2 (agn_symm _ _ g)
  · intro H j hj
    obtain ⟨h1, h2, h3⟩ := H j hj
    refine (heldAt_iff h j hj).2 ⟨h1, fun i hi => ⟨fun hm => ?_, fun g => h3 ⟨i, by omega, g⟩⟩⟩
    obtain ⟨r, hr, hc⟩ := held_ok (h.take j) (by rw [List.length_take]; omega) (gA h j).f0 (gA h j).f1
    have h2 := h2 r hr
    rcases hc with ⟨m, hm1, _, _, hr2⟩ | ⟨hno, _⟩
    · rw [List.length_take] at hm1
      rw [g_take h j m (by omega)] at hr2
      have := ((ok_iff _).1 (H m (by omega)).1).2.2.1
      omega
    · exact hno i (by rw [List.length_take]; omega) (by rw [g_take h j i hi]; exact hm)
theorem cov_same (h : List S61) (hh : h.length ≤ 1048576) (H : ∀ j, j < h.length → lk_heldAt h j = true) (a : S61) (ha : lk_ok a = true) (r : Int) (hr : ∀ k, 1048578 ≤ k → spec_l17Held.f k h a.f0 a.f1 = some r) : (∃ i, i < h.length ∧ lk_cov (gA h i) a = true) ↔ r ≥ a.f2 := by
  have h1 := ((ok_iff a).1 ha).2.2.1
  obtain ⟨r', hr', hc⟩ := held_ok h hh a.f0 a.f1
  have : some r = some r' := (hr 1048578 (Nat.le_refl _)).symm.trans (hr' 1048578 (Nat.le_refl _))
  injection this with e
  subst e
  rcases hc with ⟨i, hi, hm, hfirst, rfl⟩ | ⟨hno, rfl⟩
  · constructor
    · rintro ⟨m, hm1, g⟩
      obtain ⟨g1, g2, g3⟩ := (cov_iff _ _).1 g
      rcases Nat.lt_trichotomy i m with h3 | h3 | h3
      · exact absurd ⟨hm.1.trans g2.symm, hm.2.trans g1.symm⟩ (((heldAt_iff h m hm1).1 (H m hm1)).2 i h3).1
      · subst h3
        omega
      · exact absurd ⟨g2, g1⟩ (hfirst m h3)
    · intro g
      exact ⟨i, hi, (cov_iff _ _).2 ⟨hm.2, hm.1, g⟩⟩
  · constructor
    · rintro ⟨m, hm1, g⟩
      obtain ⟨g1, g2, _⟩ := (cov_iff _ _).1 g
      exact absurd ⟨g2, g1⟩ (hno m hm1)
    · intro g
      omega
theorem queue_same (h q : List S61) (hh : h.length ≤ 1048576) (H : ∀ j, j < h.length → lk_heldAt h j = true) (j : Nat) (hj : j < q.length) : lk_queueAt h q j = true ↔ G2 h q j := by
  rw [queueAt_iff h q j hj]
  obtain ⟨r, hr, _⟩ := held_ok h hh (gA q j).f0 (gA q j).f1
  constructor
  · rintro ⟨h1, h2, h3, h4⟩
    exact ⟨h1, fun r' hr2 => by rw [← cov_same h hh H _ h1 r' hr2]; exact h3, h4, h2⟩
  · rintro ⟨h1, h2, h3, h4⟩
    exact ⟨h1, h4, by rw [cov_same h hh H _ h1 r hr]; exact h2 r hr, h3⟩
theorem locks_both (h q : List S61) (hh : h.length ≤ 1048576) (hq : q.length ≤ 1048576) : ∃ K0, ∀ k, K0 ≤ k → spec_LocksOk.f k h q = some (lk_all h q) := by
  obtain ⟨b, K0, hb, hb'⟩ := spec_locks h q hh hq
  refine ⟨K0, ?_⟩
  have e : b = lk_all h q := by
    rw [Bool.eq_iff_iff, hb', all_iff, ← held_same h hh]
    constructor
    · rintro ⟨h1, h2⟩
      exact ⟨h1, fun j hj => (queue_same h q hh h1 j hj).2 (h2 j hj)⟩
    · rintro ⟨h1, h2⟩
      exact ⟨h1, fun j hj => (queue_same h q hh h1 j hj).1 (h2 j hj)⟩
  rw [← e]
  exact hb

end Go.Proofs.Ytalhkihppcjanaa.Pure
set_option linter.unusedVariables false
set_option linter.unusedSimpArgs false
namespace Go.Proofs.Ytalhkihppcjanaa.Pure
open Go.RowKit Go.Proofs.Ytalhkihppcjanaa.X Go.Proofs.YtalhkihppcjanaaV.PrintWords Go.Proofs.YtalhkihppcjanaaV.PrintLast Go.Proofs.YtalhkihppcjanaaV.PrintMore

def mkK (x : S119) : S61 := ⟨x.f0, x.f1, x.f2⟩
theorem toAskS_eq (l : List S119) (hl : l.length ≤ 1000000000) : ∀ k, l.length + 1 ≤ k → laws_toAskS.f k l = some (l.map mkK) := by
  intro k hk
  unfold laws_toAskS.f
  rw [if_pos (by omega), if_pos (by omega)]
  refine copy_all (fun k x i => laws_toAskS.l0 k l x i) (l.map mkK) _ (by rw [List.length_replicate, List.length_map]; omega) z61 ?_ ?_ k (by rw [List.length_map]; omega)
  · intro k x j hj hx
    rw [List.length_map] at hj hx
    show laws_toAskS.l0 (k + 1) l x j = _
    rw [laws_toAskS.l0, if_pos (by omega), if_pos (by omega), laws_toAsk.f, Option.bind_some, if_pos (by omega), show wrap64 ((j : Int) + 1) = ((j + 1 : Nat) : Int) by rw [w64g (by omega)]; omega]
    have e : (l.map mkK).getD j z61 = mkK (l.getD j z119) := by
      rw [List.getD_eq_getElem?_getD, List.getElem?_map, List.getElem?_eq_getElem hj, List.getD_eq_getElem?_getD, List.getElem?_eq_getElem hj]
      rfl
    rw [e]
    rfl
  · intro k x hx
    rw [List.length_map] at hx
    show laws_toAskS.l0 (k + 1) l x ((l.map mkK).length : Nat) = _
    rw [laws_toAskS.l0, if_neg (by rw [List.length_map]; omega)]
theorem eqAskS_eq (l : List S61) (hl : l.length ≤ 1000000000) : ∀ k, l.length + 1 ≤ k → laws_eqAskS.f k l l = some true := by
  intro k hk
  unfold laws_eqAskS.f
  rw [if_pos rfl]
  refine go_all (fun k i => laws_eqAskS.l0 k l l i) l.length 0 1 true ?_ ?_ k (by omega)
  · intro k j _ hj
    show laws_eqAskS.l0 (k + 1) l l j = _
    rw [laws_eqAskS.l0, if_pos (by omega), if_pos (by omega), if_pos (by omega), laws_eqAsk.f, if_pos rfl, if_pos rfl, if_pos rfl, Option.bind_some, if_pos rfl, show wrap64 ((j : Int) + 1) = ((j + 1 : Nat) : Int) by rw [w64g (by omega)]; omega]
  · intro k _
    show laws_eqAskS.l0 (k + 1) l l l.length = _
    rw [laws_eqAskS.l0, if_neg (by omega)]
theorem szLocks_ok (a b : List S119) (ha : a.length ≤ maxLen) (hb : b.length ≤ maxLen) : ∃ z, laws_szLocks.f a b 1048576 = some z ∧ (¬ z < 0 → a.length ≤ 1048576 ∧ b.length ≤ 1048576) := by
  unfold maxLen at ha hb
  unfold laws_szLocks.f laws_szAskS.f
  by_cases h1 : wrap64 (1048576 - (a.length : Int)) < 0
  · rw [if_pos h1, Option.bind_some, if_pos (by decide)]
    exact ⟨_, rfl, fun h => absurd (by decide) h⟩
  · rw [if_neg h1, Option.bind_some, if_neg h1]
    have e1 : wrap64 (1048576 - (a.length : Int)) = 1048576 - (a.length : Int) := w64g (by omega)
    rw [e1] at h1 ⊢
    have e2 : wrap64 (1048576 - (a.length : Int) - (b.length : Int)) = 1048576 - (a.length : Int) - (b.length : Int) := w64g (by omega)
    rw [e2]
    by_cases h2 : 1048576 - (a.length : Int) - (b.length : Int) < 0
    · rw [if_pos h2, Option.bind_some, if_pos (by decide)]
      exact ⟨_, rfl, fun h => absurd (by decide) h⟩
    · rw [if_neg h2, Option.bind_some, if_neg h2]
      exact ⟨_, rfl, fun _ => by omega⟩

end Go.Proofs.Ytalhkihppcjanaa.Pure
set_option linter.unusedVariables false
set_option linter.unusedSimpArgs false
namespace Go.Proofs.Ytalhkihppcjanaa.Pure
open Go.RowKit Go.Proofs.Ytalhkihppcjanaa.X Go.Proofs.YtalhkihppcjanaaV.PrintWords Go.Proofs.YtalhkihppcjanaaV.PrintLast Go.Proofs.YtalhkihppcjanaaV.PrintMore

theorem FnExactLocksOk : laws_FnExactLocksOk.Pure := by
  intro a b ha hb
  obtain ⟨z, hz, hz2⟩ := szLocks_ok a b ha.1 hb.1
  by_cases h : z < 0
  · refine ⟨0, ?_⟩
    unfold laws_FnExactLocksOk.f
    rw [hz, Option.bind_some, if_pos h]
  obtain ⟨la, lb⟩ := hz2 h
  have ma : (a.map mkK).length = a.length := List.length_map _
  have mb : (b.map mkK).length = b.length := List.length_map _
  obtain ⟨K0, hK0⟩ := locks_both (a.map mkK) (b.map mkK) (by omega) (by omega)
  obtain ⟨K, hK, hK2⟩ : ∃ K, 2000000 ≤ K ∧ K0 ≤ K := ⟨K0 + 2000000, by omega, by omega⟩
  refine ⟨K, ?_⟩
  unfold laws_FnExactLocksOk.f
  rw [hz, Option.bind_some]
  have tl : laws_toLocks.f K a b = some (a.map mkK, b.map mkK) := by
    unfold laws_toLocks.f
    rw [toAskS_eq a (by omega) K (by omega), Option.bind_some, toAskS_eq b (by omega) K (by omega), Option.bind_some]
  have el : laws_eqLocks.f K (a.map mkK) (b.map mkK) (a.map mkK) (b.map mkK) = some true := by
    unfold laws_eqLocks.f
    rw [eqAskS_eq _ (by omega) K (by omega), Option.bind_some, if_pos rfl, eqAskS_eq _ (by omega) K (by omega), Option.bind_some, if_pos rfl]
  rw [if_neg h, tl, Option.bind_some]
  show (spec_LocksOk.f K (a.map mkK) (b.map mkK)).bind _ = _
  rw [hK0 K hK2, Option.bind_some, Option.bind_some]
  show (impl_LocksOk.f (a.map mkK) (b.map mkK)).bind _ = _
  unfold impl_LocksOk.f
  rw [Option.bind_some, if_neg (by simp), Option.bind_some]
  show (laws_eqLocks.f K (a.map mkK) (b.map mkK) (a.map mkK) (b.map mkK)).bind _ = _
  rw [el, Option.bind_some, if_pos rfl]

end Go.Proofs.Ytalhkihppcjanaa.Pure
