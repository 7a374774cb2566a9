/- The program's GroupColumns returns what the reference's returns, for all arguments; no condition. -/
import Derived.Test.YtikjhhjmdknhiaaVMore
import Derived.Test.YtikjhhjmdknhiaaX0
import Derived.Test.YtikjhhjmdknhiaaZFnExactGroupColumns4
set_option linter.unusedVariables false
set_option linter.unusedSimpArgs false
namespace Go.Proofs.Ytikjhhjmdknhiaa.Pure
open Go.RowKit Go.Proofs.YtikjhhjmdknhiaaV.PrintWords Go.Proofs.YtikjhhjmdknhiaaV.PrintLast Go.Proofs.YtikjhhjmdknhiaaV.PrintMore

theorem w64g {n : Int} (h : -9223372036854775808 ≤ n ∧ n ≤ 9223372036854775807) : wrap64 n = n := by unfold wrap64; omega
theorem scan_all (F : Nat → Int → Option Bool) (n K : Nat) (G : Nat → Prop) (fin : Bool)
    (h1 : ∀ k j, K ≤ k → j < n → G j → F (k + 1) (j : Int) = F k ((j + 1 : Nat) : Int))
    (h2 : ∀ k j, K ≤ k → j < n → ¬ G j → F (k + 1) (j : Int) = some false)
    (h3 : ∀ k, K ≤ k → F (k + 1) (n : Int) = some fin) :
    ∃ b, (∀ k, n + 1 + K ≤ k → F k 0 = some b) ∧ (b = true ↔ ((∀ j, j < n → G j) ∧ fin = true)) := by
  have main : ∀ d i, i + d = n → ∃ b, (∀ k, d + 1 + K ≤ k → F k (i : Int) = some b) ∧ (b = true ↔ ((∀ j, i ≤ j → j < n → G j) ∧ fin = true)) := by
    intro d
    induction d with
    | zero =>
      intro i hi
      have hi : i = n := by omega
      subst hi
      refine ⟨fin, fun k hk => ?_, ⟨fun h => ⟨fun j h1 h2 => by omega, h⟩, fun h => h.2⟩⟩
      obtain ⟨k, rfl⟩ : ∃ m, k = m + 1 := ⟨k - 1, by omega⟩
      exact h3 k (by omega)
    | succ d ih =>
      intro i hi
      by_cases g : G i
      · obtain ⟨b, hb, hb'⟩ := ih (i + 1) (by omega)
        refine ⟨b, fun k hk => ?_, ?_⟩
        · obtain ⟨k, rfl⟩ : ∃ m, k = m + 1 := ⟨k - 1, by omega⟩
          rw [h1 k i (by omega) (by omega) g]
          exact hb k (by omega)
        · rw [hb']
          constructor
          · intro h
            refine ⟨fun j hj hj' => ?_, h.2⟩
            by_cases e : j = i
            · rw [e]; exact g
            · exact h.1 j (by omega) hj'
          · intro h
            exact ⟨fun j hj hj' => h.1 j (by omega) hj', h.2⟩
      · refine ⟨false, fun k hk => ?_, ?_⟩
        · obtain ⟨k, rfl⟩ : ∃ m, k = m + 1 := ⟨k - 1, by omega⟩
          exact h2 k i (by omega) (by omega) g
        · constructor
          · intro h
            cases h
          · intro h
            exact absurd (h.1 i (Nat.le_refl _) (by omega)) g
  obtain ⟨b, hb, hb'⟩ := main n 0 (by omega)
  refine ⟨b, hb, ?_⟩
  rw [hb']
  constructor
  · intro h; exact ⟨fun j hj => h.1 j (by omega) hj, h.2⟩
  · intro h; exact ⟨fun j _ hj => h.1 j hj, h.2⟩
theorem go_all {α : Type} (F : Nat → Int → Option α) (n K c : Nat) (r : α)
    (h1 : ∀ k j, K ≤ k → j < n → F (k + c) (j : Int) = F k ((j + 1 : Nat) : Int))
    (h3 : ∀ k, K ≤ k → F (k + c) (n : Int) = some r) : ∀ k, K + c * (n + 1) ≤ k → F k 0 = some r := by
  have main : ∀ d i, i + d = n → ∀ k, K + c * (d + 1) ≤ k → F k (i : Int) = some r := by
    intro d
    induction d with
    | zero =>
      intro i hi k hk
      have hi : i = n := by omega
      subst hi
      obtain ⟨k, rfl⟩ : ∃ m, k = m + c := ⟨k - c, by omega⟩
      exact h3 k (by omega)
    | succ d ih =>
      intro i hi k hk
      have e : c * (d + 1 + 1) = c * (d + 1) + c := Nat.mul_succ _ _
      obtain ⟨k, rfl⟩ : ∃ m, k = m + c := ⟨k - c, by omega⟩
      rw [h1 k i (by omega) (by omega)]
      exact ih (i + 1) (by omega) k (by omega)
  exact main n 0 (by omega)
theorem copy_all {β : Type} (F : Nat → List β → Int → Option (List β)) (L : List β) (x0 : List β) (hx : x0.length = L.length) (d : β)
    (h1 : ∀ k (x : List β) j, j < L.length → x.length = L.length → F (k + 1) x (j : Int) = F k (x.set j (L.getD j d)) ((j + 1 : Nat) : Int))
    (h3 : ∀ k x, x.length = L.length → F (k + 1) x (L.length : Int) = some x) : ∀ k, L.length + 1 ≤ k → F k x0 0 = some L := by
  have main : ∀ e i, i + e = L.length → ∀ k, e + 1 ≤ k → F k (L.take i ++ x0.drop i) (i : Int) = some L := by
    intro e
    induction e with
    | zero =>
      intro i hi k hk
      have hi : i = L.length := by omega
      subst hi
      obtain ⟨k, rfl⟩ : ∃ m, k = m + 1 := ⟨k - 1, by omega⟩
      rw [h3 k _ (by simp [hx]), List.take_length, List.drop_of_length_le (by omega), List.append_nil]
    | succ e ih =>
      intro i hi k hk
      obtain ⟨k, rfl⟩ : ∃ m, k = m + 1 := ⟨k - 1, by omega⟩
      have hlen : (L.take i ++ x0.drop i).length = L.length := by
        rw [List.length_append, List.length_take, List.length_drop]
        omega
      rw [h1 k _ i (by omega) hlen]
      have hi' : i < L.length := by omega
      have hi2 : i < x0.length := by omega
      have e2 : (L.take i ++ x0.drop i).set i (L.getD i d) = L.take (i + 1) ++ x0.drop (i + 1) := by
        rw [List.set_append_right _ _ (by rw [List.length_take]; omega), List.length_take, show i - min i L.length = 0 by omega, List.drop_eq_getElem_cons hi2, List.set_cons_zero]
        rw [List.take_succ_eq_append_getElem hi', List.append_assoc]
        congr 1
        rw [List.getD_eq_getElem?_getD, List.getElem?_eq_getElem hi']
        rfl
      rw [e2]
      exact ih (i + 1) (by omega) k (by omega)
  intro k hk
  have := main L.length 0 (by omega) k hk
  simpa using this
theorem chain_iff {α : Type} (d : α) (Q : α → Prop) (R : α → α → Prop) (tr : ∀ a b c, R a b → R b c → R a c) (l : List α) :
    (∀ j, j < l.length → Q (l.getD j d) ∧ (0 < j → R (l.getD (j - 1) d) (l.getD j d))) ↔ ((∀ x ∈ l, Q x) ∧ l.Pairwise R) := by
  have gd : ∀ j (h : j < l.length), l.getD j d = l[j] := by
    intro j h
    rw [List.getD_eq_getElem?_getD, List.getElem?_eq_getElem h]
    rfl
  constructor
  · intro h
    refine ⟨fun x hx => ?_, ?_⟩
    · obtain ⟨j, hj, rfl⟩ := List.getElem_of_mem hx
      rw [← gd j hj]
      exact (h j hj).1
    · rw [List.pairwise_iff_getElem]
      have main : ∀ e i (hi : i < l.length) (hj : i + e + 1 < l.length), R l[i] l[i + e + 1] := by
        intro e
        induction e with
        | zero =>
          intro i hi hj
          have := (h (i + 0 + 1) hj).2 (by omega)
          rw [gd _ (show i + 0 + 1 - 1 < l.length by omega), gd _ hj] at this
          exact this
        | succ e ih =>
          intro i hi hj
          have h1 := ih i hi (by omega)
          have := (h (i + (e + 1) + 1) hj).2 (by omega)
          rw [gd _ (show i + (e + 1) + 1 - 1 < l.length by omega), gd _ hj] at this
          exact tr _ _ _ h1 this
      intro i j hi hj hij
      obtain ⟨e, rfl⟩ : ∃ e, j = i + e + 1 := ⟨j - i - 1, by omega⟩
      exact main e i hi hj
  · intro h j hj
    refine ⟨?_, fun h0 => ?_⟩
    · rw [gd j hj]
      exact h.1 _ (List.getElem_mem hj)
    · rw [gd j hj, gd (j - 1) (by omega)]
      exact List.pairwise_iff_getElem.1 h.2 (j - 1) j (by omega) hj (by omega)
/-- What holds of a chain holds of the chain without one of its elements. -/
theorem chain_less {α : Type} {Q : α → Prop} {R : α → α → Prop} {l : List α} (h : (∀ x ∈ l, Q x) ∧ l.Pairwise R) (a b : Nat) (hab : a ≤ b) :
    (∀ x ∈ l.take a ++ l.drop b, Q x) ∧ (l.take a ++ l.drop b).Pairwise R := by
  have sub : (l.take a ++ l.drop b).Sublist l := by
    have h1 : (l.take a ++ l.drop b).Sublist (l.take a ++ l.drop a) := by
      apply List.Sublist.append (List.Sublist.refl _)
      rw [show b = a + (b - a) by omega, ← List.drop_drop]
      exact List.drop_sublist _ _
    rwa [List.take_append_drop] at h1
  exact ⟨fun x hx => h.1 x (sub.subset hx), h.2.sublist sub⟩
theorem go_all2 {α : Type} (F : Nat → Int → Option α) (n K : Nat) (r : α)
    (h1 : ∀ k j, K ≤ k → j < n → F (k + 1 + 1) (j : Int) = F k ((j + 1 : Nat) : Int))
    (h3 : ∀ k, K ≤ k → F (k + 1 + 1) (n : Int) = some r) : ∀ k, K + 2 * (n + 1) ≤ k → F k 0 = some r :=
  go_all F n K 2 r h1 h3
theorem any_ok {α : Type} (F : Nat → Int → Option α) (n K : Nat)
    (h1 : ∀ j, j < n → (∃ r, ∀ k, K ≤ k → F (k + 1) (j : Int) = some r) ∨ (∀ k, K ≤ k → F (k + 1) (j : Int) = F k ((j + 1 : Nat) : Int)))
    (h3 : ∃ r, ∀ k, K ≤ k → F (k + 1) (n : Int) = some r) : ∃ r, ∀ k, n + 1 + K ≤ k → F k 0 = some r := by
  have main : ∀ d i, i + d = n → ∃ r, ∀ k, d + 1 + K ≤ k → F k (i : Int) = some r := by
    intro d
    induction d with
    | zero =>
      intro i hi
      have hi : i = n := by omega
      subst hi
      obtain ⟨r, hr⟩ := h3
      refine ⟨r, fun k hk => ?_⟩
      obtain ⟨k, rfl⟩ : ∃ m, k = m + 1 := ⟨k - 1, by omega⟩
      exact hr k (by omega)
    | succ d ih =>
      intro i hi
      rcases h1 i (by omega) with ⟨r, hr⟩ | h
      · refine ⟨r, fun k hk => ?_⟩
        obtain ⟨k, rfl⟩ : ∃ m, k = m + 1 := ⟨k - 1, by omega⟩
        exact hr k (by omega)
      · obtain ⟨r, hr⟩ := ih (i + 1) (by omega)
        refine ⟨r, fun k hk => ?_⟩
        obtain ⟨k, rfl⟩ : ∃ m, k = m + 1 := ⟨k - 1, by omega⟩
        rw [h k (by omega)]
        exact hr k (by omega)
  exact main n 0 (by omega)

end Go.Proofs.Ytikjhhjmdknhiaa.Pure
set_option linter.unusedVariables false
set_option linter.unusedSimpArgs false
namespace Go.Proofs.Ytikjhhjmdknhiaa.Pure
open Go.RowKit Go.Proofs.Ytikjhhjmdknhiaa.X Go.Proofs.YtikjhhjmdknhiaaV.PrintWords Go.Proofs.YtikjhhjmdknhiaaV.PrintLast Go.Proofs.YtikjhhjmdknhiaaV.PrintMore

theorem between_eq (a lo hi : Int) : impl_between.f a lo hi = some (decide (lo ≤ a ∧ a ≤ hi)) := by
  unfold impl_between.f
  by_cases h : a ≥ lo
  · rw [if_pos h]
    by_cases g : a ≤ hi
    · rw [decide_eq_true g, decide_eq_true ⟨h, g⟩]
    · rw [decide_eq_false g, decide_eq_false (fun h' => g h'.2)]
  · rw [if_neg h, decide_eq_false (fun h' => h h'.1)]

end Go.Proofs.Ytikjhhjmdknhiaa.Pure
set_option linter.unusedVariables false
set_option linter.unusedSimpArgs false
namespace Go.Proofs.Ytikjhhjmdknhiaa.Pure
open Go.RowKit Go.Proofs.Ytikjhhjmdknhiaa.X Go.Proofs.YtikjhhjmdknhiaaV.PrintWords Go.Proofs.YtikjhhjmdknhiaaV.PrintLast Go.Proofs.YtikjhhjmdknhiaaV.PrintMore

theorem l1In_eq (a lo hi : Int) : spec_l1In.f a lo hi = some (decide (lo ≤ a ∧ a ≤ hi)) := by
  unfold spec_l1In.f
  by_cases h : a ≥ lo
  · rw [if_pos h]
    by_cases g : a ≤ hi
    · rw [decide_eq_true g, decide_eq_true ⟨h, g⟩]
    · rw [decide_eq_false g, decide_eq_false (fun h' => g h'.2)]
  · rw [if_neg h, decide_eq_false (fun h' => h h'.1)]

end Go.Proofs.Ytikjhhjmdknhiaa.Pure
set_option linter.unusedVariables false
set_option linter.unusedSimpArgs false
namespace Go.Proofs.Ytikjhhjmdknhiaa.Pure
open Go.RowKit Go.Proofs.Ytikjhhjmdknhiaa.X Go.Proofs.YtikjhhjmdknhiaaV.PrintWords Go.Proofs.YtikjhhjmdknhiaaV.PrintLast Go.Proofs.YtikjhhjmdknhiaaV.PrintMore

abbrev OkC (x : S109) : Prop := 1 ≤ x.f0 ∧ x.f0 ≤ 3
theorem rdC_nat (l : List S109) (j : Nat) : rd_T109 l (j : Int) = l.getD j z109 := rfl
theorem getD_mem {α : Type} (l : List α) (d : α) (j : Nat) (hj : j < l.length) : l.getD j d ∈ l := by
  rw [List.getD_eq_getElem?_getD, List.getElem?_eq_getElem hj]
  exact List.getElem_mem hj
theorem all_getD {α : Type} (l : List α) (d : α) (P : α → Prop) : (∀ j, j < l.length → P (l.getD j d)) ↔ ∀ x ∈ l, P x := by
  constructor
  · intro h x hx
    obtain ⟨j, hj, rfl⟩ := List.getElem_of_mem hx
    have := h j hj
    rw [List.getD_eq_getElem?_getD, List.getElem?_eq_getElem hj] at this
    exact this
  · intro h j hj
    exact h _ (getD_mem l d j hj)
theorem spec_cols (l : List S109) (hl : l.length ≤ 1000000000) : ∃ b, (∀ k, l.length + 1 ≤ k → spec_ColumnsOk.f k l = some b) ∧ (b = true ↔ ((∀ x ∈ l, OkC x) ∧ l.length ≤ 4)) := by
  obtain ⟨b, hb, hb'⟩ := scan_all (fun k i => spec_ColumnsOk.l0 k l i) l.length 0 (fun j => OkC (l.getD j z109)) (decide ((l.length : Int) ≤ 4))
    (by
      intro k j _ hj g
      show spec_ColumnsOk.l0 (k + 1) l j = _
      rw [spec_ColumnsOk.l0, if_pos (by omega), if_pos (by omega), rdC_nat, l1In_eq, Option.bind_some, if_pos (decide_eq_true g), show wrap64 ((j : Int) + 1) = ((j + 1 : Nat) : Int) by rw [w64g (by omega)]; omega])
    (by
      intro k j _ hj g
      show spec_ColumnsOk.l0 (k + 1) l j = _
      rw [spec_ColumnsOk.l0, if_pos (by omega), if_pos (by omega), rdC_nat, l1In_eq, Option.bind_some, if_neg (fun h => g (of_decide_eq_true h))])
    (by
      intro k _
      show spec_ColumnsOk.l0 (k + 1) l l.length = _
      rw [spec_ColumnsOk.l0, if_neg (by omega)])
  refine ⟨b, fun k hk => hb k (by omega), ?_⟩
  rw [hb', decide_eq_true_iff, all_getD l z109 OkC]
  exact ⟨fun h => ⟨h.1, by omega⟩, fun h => ⟨h.1, by omega⟩⟩
theorem impl_cols (l : List S109) : ∃ b, impl_ColumnsOk.f l = some b ∧ (b = true ↔ ((∀ x ∈ l, OkC x) ∧ l.length ≤ 4)) := by
  refine ⟨_, rfl, ?_⟩
  rw [Bool.and_eq_true, decide_eq_true_iff, List.all_eq_true]
  constructor
  · intro h
    exact ⟨fun x hx => of_decide_eq_true (h.2 x hx), h.1⟩
  · intro h
    exact ⟨h.2, fun x hx => decide_eq_true (h.1 x hx)⟩
theorem eqColumnS_eq (l : List S109) (hl : l.length ≤ 1000000000) : ∀ k, l.length + 1 ≤ k → laws_eqColumnS.f k l l = some true := by
  intro k hk
  unfold laws_eqColumnS.f
  rw [if_pos rfl]
  refine go_all (fun k i => laws_eqColumnS.l0 k l l i) l.length 0 1 true ?_ ?_ k (by omega)
  · intro k j _ hj
    show laws_eqColumnS.l0 (k + 1) l l j = _
    rw [laws_eqColumnS.l0, if_pos (by omega), if_pos (by omega), if_pos (by omega), laws_eqColumn.f, if_pos rfl, if_neg (by simp), Option.bind_some, if_pos rfl, show wrap64 ((j : Int) + 1) = ((j + 1 : Nat) : Int) by rw [w64g (by omega)]; omega]
  · intro k _
    show laws_eqColumnS.l0 (k + 1) l l l.length = _
    rw [laws_eqColumnS.l0, if_neg (by omega)]

end Go.Proofs.Ytikjhhjmdknhiaa.Pure
set_option linter.unusedVariables false
set_option linter.unusedSimpArgs false
namespace Go.Proofs.Ytikjhhjmdknhiaa.Pure
open Go.RowKit Go.Proofs.Ytikjhhjmdknhiaa.X Go.Proofs.YtikjhhjmdknhiaaV.PrintWords Go.Proofs.YtikjhhjmdknhiaaV.PrintLast Go.Proofs.YtikjhhjmdknhiaaV.PrintMore

abbrev InC (c : List S109) (x : Int) : Prop := 0 ≤ x ∧ x ≤ (c.length : Int) - 1
/-- When groups can be told. -/
def GOk (c : List S109) (y : List Int) (o t : Int) : Prop := ((∀ x ∈ c, OkC x) ∧ c.length ≤ 4) ∧ y.length ≤ 3 ∧ (∀ x ∈ y, InC c x) ∧ InC c o ∧ (1 ≤ t ∧ t ≤ 4) ∧ (t = 2 → (c.getD o.toNat z109).f0 = 1)
theorem rdC_int (c : List S109) (o : Int) : rd_T109 c o = c.getD o.toNat z109 := rfl
theorem impl_gok (c : List S109) (y : List Int) (o t : Int) : ∃ b, impl_groupsOk.f c y o t = some b ∧ (b = true ↔ GOk c y o t) := by
  obtain ⟨q, hq, hq'⟩ := impl_cols c
  unfold impl_groupsOk.f GOk
  rw [hq, Option.bind_some]
  by_cases h1 : q = true
  case neg => exact ⟨false, by rw [if_neg h1], ⟨fun h => (by cases h), fun h => absurd (hq'.2 h.1) h1⟩⟩
  rw [if_pos h1]
  by_cases h2 : y.length ≤ 3
  case neg => exact ⟨false, by rw [if_neg h2], ⟨fun h => (by cases h), fun h => absurd h.2.1 h2⟩⟩
  rw [if_pos h2]
  have hbad : y.any (impl_groupsOk.bad c.length) = true ↔ ¬ ∀ x ∈ y, InC c x := by
    rw [List.any_eq_true]
    unfold impl_groupsOk.bad
    constructor
    · rintro ⟨x, hx, h⟩ g
      rw [decide_eq_true (g x hx)] at h
      cases h
    · intro g
      apply Classical.byContradiction
      intro h
      apply g
      intro x hx
      apply Classical.byContradiction
      intro g2
      exact h ⟨x, hx, by rw [decide_eq_false g2]; rfl⟩
  by_cases h3 : ∀ x ∈ y, InC c x
  case neg => exact ⟨false, by rw [if_pos (hbad.2 h3)], ⟨fun h => (by cases h), fun h => absurd h.2.2.1 h3⟩⟩
  rw [if_neg (fun h => hbad.1 h h3)]
  by_cases h4 : InC c o
  case neg => exact ⟨false, by rw [if_neg h4], ⟨fun h => (by cases h), fun h => absurd h.2.2.2.1 h4⟩⟩
  rw [if_pos h4]
  by_cases h5 : 1 ≤ t ∧ t ≤ 4
  case neg => exact ⟨false, by rw [if_neg h5], ⟨fun h => (by cases h), fun h => absurd h.2.2.2.2.1 h5⟩⟩
  rw [if_pos h5]
  by_cases h6 : t = 2
  · rw [if_pos h6, rdC_int]
    exact ⟨_, rfl, by rw [beq_iff_eq]; exact ⟨fun h => ⟨hq'.1 h1, h2, h3, h4, h5, fun _ => h⟩, fun h => h.2.2.2.2.2 h6⟩⟩
  · rw [if_neg h6]
    exact ⟨true, rfl, ⟨fun _ => ⟨hq'.1 h1, h2, h3, h4, h5, fun h => absurd h h6⟩, fun _ => rfl⟩⟩
theorem wlen (c : List S109) (hc : c.length ≤ 1048576) : wrap64 ((c.length : Int) - 1) = (c.length : Int) - 1 := w64g (by omega)
theorem spec_gok (c : List S109) (hc : c.length ≤ 1048576) (y : List Int) (hy : y.length ≤ 1048576) (o t : Int) : ∃ b, (∀ k, 3000000 ≤ k → spec_l10Ready.f k c [] y o t = some b) ∧ (b = true ↔ GOk c y o t) := by
  obtain ⟨q, hq, hq'⟩ := spec_cols c (by omega)
  have hw := wlen c hc
  have tailok : ∃ fin, (∀ k, 1048579 ≤ k → spec_l10Ready.l0 (k + 1) c [] y o t (y.length : Int) = some fin) ∧ (fin = true ↔ (((∀ x ∈ c, OkC x) ∧ c.length ≤ 4) ∧ y.length ≤ 3 ∧ InC c o ∧ (1 ≤ t ∧ t ≤ 4) ∧ (t = 2 → (c.getD o.toNat z109).f0 = 1))) := by
    have hrows : ∀ k, 1048579 ≤ k → spec_RowsOk.f k c [] = some q := by
      intro k hk
      obtain ⟨k, rfl⟩ : ∃ m, k = m + 1 := ⟨k - 1, by omega⟩
      unfold spec_RowsOk.f
      rw [spec_RowsOk.l0, if_neg (by simp), hq _ (by omega), Option.bind_some]
    have hun : ∀ k, 1048579 ≤ k → spec_l10Ready.l0 (k + 1) c [] y o t (y.length : Int) = (if q = true then (if (y.length : Int) < 4 then (if InC c o then (if 1 ≤ t ∧ t ≤ 4 then (if t = 2 then some ((c.getD o.toNat z109).f0 == 1) else some true) else some false) else some false) else some false) else some false) := by
      intro k hk
      rw [spec_l10Ready.l0, if_neg (by omega), hrows k hk, Option.bind_some]
      by_cases h1 : q = true
      · rw [if_pos h1, if_pos h1, if_pos (by simp)]
        by_cases h2 : (y.length : Int) < 4
        · rw [if_pos h2, if_pos h2, l1In_eq, Option.bind_some, hw]
          by_cases h3 : InC c o
          · rw [if_pos (decide_eq_true h3), if_pos h3, l1In_eq, Option.bind_some]
            by_cases h4 : 1 ≤ t ∧ t ≤ 4
            · rw [if_pos (decide_eq_true h4), if_pos h4]
              by_cases h5 : t = 2
              · rw [if_pos h5, if_pos h5, if_pos h3.1, if_pos (by have := h3.2; omega), rdC_int]
              · rw [if_neg h5, if_neg h5]
            · rw [if_neg (fun h => h4 (of_decide_eq_true h)), if_neg h4]
          · rw [if_neg (fun h => h3 (of_decide_eq_true h)), if_neg h3]
        · rw [if_neg h2, if_neg h2]
      · rw [if_neg h1, if_neg h1]
    by_cases h1 : q = true
    case neg => exact ⟨false, fun k hk => by rw [hun k hk, if_neg h1], ⟨fun h => (by cases h), fun h => absurd (hq'.2 h.1) h1⟩⟩
    by_cases h2 : (y.length : Int) < 4
    case neg => exact ⟨false, fun k hk => by rw [hun k hk, if_pos h1, if_neg h2], ⟨fun h => (by cases h), fun h => absurd h.2.1 (by omega)⟩⟩
    by_cases h3 : InC c o
    case neg => exact ⟨false, fun k hk => by rw [hun k hk, if_pos h1, if_pos h2, if_neg h3], ⟨fun h => (by cases h), fun h => absurd h.2.2.1 h3⟩⟩
    by_cases h4 : 1 ≤ t ∧ t ≤ 4
    case neg => exact ⟨false, fun k hk => by rw [hun k hk, if_pos h1, if_pos h2, if_pos h3, if_neg h4], ⟨fun h => (by cases h), fun h => absurd h.2.2.2.1 h4⟩⟩
    by_cases h5 : t = 2
    · exact ⟨_, fun k hk => by rw [hun k hk, if_pos h1, if_pos h2, if_pos h3, if_pos h4, if_pos h5], by rw [beq_iff_eq]; exact ⟨fun h => ⟨hq'.1 h1, by omega, h3, h4, fun _ => h⟩, fun h => h.2.2.2.2 h5⟩⟩
    · exact ⟨true, fun k hk => by rw [hun k hk, if_pos h1, if_pos h2, if_pos h3, if_pos h4, if_neg h5], ⟨fun _ => ⟨hq'.1 h1, by omega, h3, h4, fun h => absurd h h5⟩, fun _ => rfl⟩⟩
  obtain ⟨fin, hfin, hfin'⟩ := tailok
  obtain ⟨b, hb, hb'⟩ := scan_all (fun k i => spec_l10Ready.l0 k c [] y o t i) y.length 1048579 (fun j => InC c (y.getD j 0)) fin
    (by
      intro k j hk hj g
      show spec_l10Ready.l0 (k + 1) c [] y o t j = _
      rw [spec_l10Ready.l0, if_pos (by omega), if_pos (by omega), show rd y (j : Int) = y.getD j 0 from rfl, l1In_eq, Option.bind_some, hw, if_pos (decide_eq_true g), show wrap64 ((j : Int) + 1) = ((j + 1 : Nat) : Int) by rw [w64g (by omega)]; omega])
    (by
      intro k j hk hj g
      show spec_l10Ready.l0 (k + 1) c [] y o t j = _
      rw [spec_l10Ready.l0, if_pos (by omega), if_pos (by omega), show rd y (j : Int) = y.getD j 0 from rfl, l1In_eq, Option.bind_some, hw, if_neg (fun h => g (of_decide_eq_true h))])
    hfin
  refine ⟨b, fun k hk => hb k (by omega), ?_⟩
  rw [hb', hfin', all_getD y 0 (fun x => InC c x)]
  unfold GOk
  constructor
  · rintro ⟨h1, h2, h3, h4, h5, h6⟩
    exact ⟨h2, h3, h1, h4, h5, h6⟩
  · rintro ⟨h2, h3, h1, h4, h5, h6⟩
    exact ⟨h1, h2, h3, h4, h5, h6⟩
def getC (c : List S109) (n : Int) : S109 := c.getD n.toNat z109
def groupsC (c : List S109) (y : List Int) (o t : Int) : List S109 := y.map (getC c) ++ [if t = 1 then ⟨1, false⟩ else ⟨(getC c o).f0, true⟩]
theorem map_take_succ (c : List S109) (y : List Int) (j : Nat) (hj : j < y.length) : (y.take (j + 1)).map (getC c) = (y.take j).map (getC c) ++ [getC c (y.getD j 0)] := by
  rw [List.take_succ_eq_append_getElem hj, List.map_append]
  congr 2
  rw [List.getD_eq_getElem?_getD, List.getElem?_eq_getElem hj]
  rfl
theorem spec_gcols (c : List S109) (y : List Int) (o t : Int) (h : GOk c y o t) : ∀ k, 10 ≤ k → spec_GroupColumns.l0 k c y o t [] 0 = some (groupsC c y o t) := by
  obtain ⟨_, h2, h3, h4, h5, _⟩ := h
  intro k hk
  have := go_all (fun k i => spec_GroupColumns.l0 k c y o t ((y.take i.toNat).map (getC c)) i) y.length 0 1 (groupsC c y o t) ?_ ?_ k (by omega)
  · simpa using this
  · intro k j _ hj
    have hx := h3 _ (getD_mem y 0 j hj)
    show spec_GroupColumns.l0 (k + 1) c y o t ((y.take (j : Int).toNat).map (getC c)) j = spec_GroupColumns.l0 k c y o t ((y.take (((j + 1 : Nat) : Int)).toNat).map (getC c)) ((j + 1 : Nat) : Int)
    rw [Int.toNat_natCast, Int.toNat_natCast, spec_GroupColumns.l0, if_pos (by omega), if_pos (by omega), show rd y (j : Int) = y.getD j 0 from rfl, if_pos hx.1, if_pos (by have := hx.2; omega), if_pos (by rw [List.length_map, List.length_take]; omega), show wrap64 ((j : Int) + 1) = ((j + 1 : Nat) : Int) by rw [w64g (by omega)]; omega, map_take_succ c y j hj]
    rfl
  · intro k _
    show spec_GroupColumns.l0 (k + 1) c y o t ((y.take (y.length : Int).toNat).map (getC c)) y.length = _
    rw [Int.toNat_natCast, List.take_length, spec_GroupColumns.l0, if_neg (by omega)]
    unfold groupsC
    by_cases h1 : t = 1
    · rw [if_pos h1, if_pos h1, if_pos (by rw [List.length_map]; omega)]
    · rw [if_neg h1, if_neg h1, if_pos h4.1, if_pos (by have := h4.2; omega), if_pos (by rw [List.length_map]; omega)]
      rfl
theorem impl_gcols (c : List S109) (y : List Int) (o t : Int) (h : GOk c y o t) : ∀ k, 10 ≤ k → impl_GroupColumns.l0 k c o t [] y (y.length : Int) 0 = some (groupsC c y o t) := by
  obtain ⟨_, h2, h3, h4, h5, _⟩ := h
  intro k hk
  have := go_all (fun k i => impl_GroupColumns.l0 k c o t ((y.take i.toNat).map (getC c)) y (y.length : Int) i) y.length 0 1 (groupsC c y o t) ?_ ?_ k (by omega)
  · simpa using this
  · intro k j _ hj
    have hx := h3 _ (getD_mem y 0 j hj)
    show impl_GroupColumns.l0 (k + 1) c o t ((y.take (j : Int).toNat).map (getC c)) y y.length j = impl_GroupColumns.l0 k c o t ((y.take (((j + 1 : Nat) : Int)).toNat).map (getC c)) y y.length ((j + 1 : Nat) : Int)
    rw [Int.toNat_natCast, Int.toNat_natCast, impl_GroupColumns.l0, if_pos (by omega), if_pos (by omega), if_pos (by omega), show rd y (j : Int) = y.getD j 0 from rfl, if_pos hx.1, if_pos (by have := hx.2; omega), if_pos (by rw [List.length_map, List.length_take]; omega), show wrap64 ((j : Int) + 1) = ((j + 1 : Nat) : Int) by rw [w64g (by omega)]; omega, map_take_succ c y j hj]
    rfl
  · intro k _
    show impl_GroupColumns.l0 (k + 1) c o t ((y.take (y.length : Int).toNat).map (getC c)) y y.length y.length = _
    rw [Int.toNat_natCast, List.take_length, impl_GroupColumns.l0, if_neg (by omega)]
    unfold groupsC impl_Column_92.f
    by_cases h1 : t = 1
    · rw [if_pos h1, if_pos h1, if_pos (by rw [List.length_map]; omega), if_pos (by rw [List.length_append, List.length_map, List.length_singleton]; omega), Option.bind_some]
    · rw [if_neg h1, if_neg h1, if_pos h4.1, if_pos (by have := h4.2; omega), if_pos (by rw [List.length_map]; omega), if_pos (by rw [List.length_append, List.length_map, List.length_singleton]; omega), Option.bind_some]
      rfl
theorem groups_both (c : List S109) (hc : c.length ≤ 1048576) (y : List Int) (hy : y.length ≤ 1048576) (o t : Int) : ∃ r, (∀ k, 3000000 ≤ k → impl_GroupColumns.f k c y o t = some r ∧ spec_GroupColumns.f k c y o t = some r) ∧ r.length ≤ 4 := by
  obtain ⟨b, hb, hb'⟩ := impl_gok c y o t
  obtain ⟨d, hd, hd'⟩ := spec_gok c hc y hy o t
  have e : d = b := by rw [Bool.eq_iff_iff, hb', hd']
  subst e
  by_cases h : d = true
  · have hg := hb'.1 h
    refine ⟨groupsC c y o t, fun k hk => ⟨?_, ?_⟩, by unfold groupsC; rw [List.length_append, List.length_map, List.length_singleton]; have := hg.2.1; omega⟩
    · unfold impl_GroupColumns.f
      rw [hb, Option.bind_some, if_pos h]
      exact impl_gcols c y o t hg k (by omega)
    · unfold spec_GroupColumns.f
      rw [Option.bind_some, hd k hk, Option.bind_some, if_pos h]
      exact spec_gcols c y o t hg k (by omega)
  · refine ⟨[], fun k hk => ⟨?_, ?_⟩, by decide⟩
    · unfold impl_GroupColumns.f
      rw [hb, Option.bind_some, if_neg h]
    · unfold spec_GroupColumns.f
      rw [Option.bind_some, hd k hk, Option.bind_some, if_neg h]

end Go.Proofs.Ytikjhhjmdknhiaa.Pure
set_option linter.unusedVariables false
set_option linter.unusedSimpArgs false
namespace Go.Proofs.Ytikjhhjmdknhiaa.Pure
open Go.RowKit Go.Proofs.Ytikjhhjmdknhiaa.X Go.Proofs.YtikjhhjmdknhiaaV.PrintWords Go.Proofs.YtikjhhjmdknhiaaV.PrintLast Go.Proofs.YtikjhhjmdknhiaaV.PrintMore

def mkC (x : S111) : S109 := ⟨x.f0, x.f1⟩
theorem toColumnS_eq (l : List S111) (hl : l.length ≤ 1000000000) : ∀ k, l.length + 1 ≤ k → laws_toColumnS.f k l = some (l.map mkC) := by
  intro k hk
  unfold laws_toColumnS.f
  rw [if_pos (by omega), if_pos (by omega)]
  refine copy_all (fun k x i => laws_toColumnS.l0 k l x i) (l.map mkC) (List.replicate ((l.length : Int) : Int).toNat z109) (by rw [List.length_replicate, List.length_map]; omega) (mkC z111) ?_ ?_ k (by simp only [List.length_map]; omega)
  · intro k x j hj hx
    rw [List.length_map] at hj hx
    show laws_toColumnS.l0 (k + 1) l x j = _
    rw [laws_toColumnS.l0, if_pos (by omega), if_pos (by omega), laws_toColumn.f, Option.bind_some, if_pos (by omega), show wrap64 ((j : Int) + 1) = ((j + 1 : Nat) : Int) by rw [w64g (by omega)]; omega, Int.toNat_natCast]
    have : (l.map mkC).getD j (mkC z111) = (⟨(rd_T111 l j).f0, (rd_T111 l j).f1⟩ : S109) := by
      show _ = mkC (l.getD j z111)
      simp only [List.getD_eq_getElem?_getD, List.getElem?_map]
      cases l[j]? <;> rfl
    rw [this]
  · intro k x hx
    rw [List.length_map] at hx
    show laws_toColumnS.l0 (k + 1) l x (l.map _).length = _
    rw [laws_toColumnS.l0, List.length_map, if_neg (by omega)]
theorem szC {α : Type} (l : List α) (hl : l.length ≤ maxLen) (left : Int) (h0 : 0 ≤ left) (h1 : left ≤ 1048576) (h : ¬ wrap64 (left - (l.length : Int)) < 0) :
    l.length ≤ 1048576 ∧ wrap64 (left - (l.length : Int)) = left - l.length := by
  have h2 : l.length ≤ 9223372036854775807 := Nat.le_trans hl (by decide)
  rw [w64g (by omega)] at h
  exact ⟨by omega, w64g (by omega)⟩

end Go.Proofs.Ytikjhhjmdknhiaa.Pure
set_option linter.unusedVariables false
set_option linter.unusedSimpArgs false
namespace Go.Proofs.Ytikjhhjmdknhiaa.Pure
open Go.RowKit Go.Proofs.Ytikjhhjmdknhiaa.X Go.Proofs.YtikjhhjmdknhiaaV.PrintWords Go.Proofs.YtikjhhjmdknhiaaV.PrintLast Go.Proofs.YtikjhhjmdknhiaaV.PrintMore

def markAt (v : Int) (i : Nat) : S109 := ⟨v + 2 * i, (Int.tmod (v + 2 * i + 1) 3 == 0)⟩
def marks (v : Int) (n : Nat) : List S109 := (List.range n).map (markAt v)
theorem marks_len (v : Int) (n : Nat) : (marks v n).length = n := by unfold marks; rw [List.length_map, List.length_range]
theorem marks_at (v : Int) (n j : Nat) (hj : j < n) (d : S109) : (marks v n).getD j d = markAt v j := by
  unfold marks
  rw [List.getD_eq_getElem?_getD, List.getElem?_map, List.getElem?_range hj]
  rfl
theorem mark_ok (l : List S109) (hl : l.length ≤ 10000000) (v : Int) (h0 : 0 ≤ v) (h1 : v ≤ 100000000) : ∀ k, l.length + 1 ≤ k → laws_markColumnS.f k l v = some (v + 2 * l.length, marks v l.length) := by
  have main : ∀ e i, i + e = l.length → ∀ k, e + 1 ≤ k → laws_markColumnS.l0 k ((marks v l.length).take i ++ l.drop i) (v + 2 * i) (i : Int) = some (v + 2 * l.length, marks v l.length) := by
    intro e
    induction e with
    | zero =>
      intro i hi k hk
      have hi : i = l.length := by omega
      subst hi
      obtain ⟨k, rfl⟩ : ∃ m, k = m + 1 := ⟨k - 1, by omega⟩
      have hz : ((marks v l.length).take l.length ++ l.drop l.length) = marks v l.length := by
        rw [List.drop_of_length_le (Nat.le_refl _), List.append_nil, List.take_of_length_le (by rw [marks_len]; omega)]
      rw [hz, laws_markColumnS.l0, if_neg (by rw [marks_len]; omega)]
    | succ e ih =>
      intro i hi k hk
      obtain ⟨k, rfl⟩ : ∃ m, k = m + 1 := ⟨k - 1, by omega⟩
      have hi' : i < l.length := by omega
      have hi2 : i < (marks v l.length).length := by rw [marks_len]; exact hi'
      have hlt : ((marks v l.length).take i).length = i := by rw [List.length_take, marks_len]; omega
      have hlen : ((marks v l.length).take i ++ l.drop i).length = l.length := by
        rw [List.length_append, hlt, List.length_drop]
        omega
      obtain ⟨X, hX⟩ : ∃ X, (marks v l.length).take i ++ l.drop i = X := ⟨_, rfl⟩
      have eX : ∀ y, X.set i y = (marks v l.length).take i ++ y :: l.drop (i + 1) := by
        intro y
        rw [← hX, List.set_append_right _ _ (by omega), hlt, Nat.sub_self, List.drop_eq_getElem_cons hi', List.set_cons_zero]
      have rX : ∀ y, rd_T109 (X.set i y) (i : Int) = y := by
        intro y
        show (X.set i y).getD i _ = y
        rw [eX, List.getD_eq_getElem?_getD, List.getElem?_append_right (by omega), hlt, Nat.sub_self]
        rfl
      rw [hX] at hlen ⊢
      have e1 : wrap64 (v + 2 * (i : Int) + 1) = v + 2 * i + 1 := w64g (by omega)
      rw [laws_markColumnS.l0, if_pos (by omega), if_pos (by omega), Option.bind_some, Int.toNat_natCast, rX, e1, w64g (n := v + 2 * (i : Int) + 1 + 1) (by omega), show wrap64 ((i : Int) + 1) = ((i + 1 : Nat) : Int) by rw [w64g (by omega)]; omega, List.set_set, eX]
      have := ih (i + 1) (by omega) k (by omega)
      rw [List.take_succ_eq_append_getElem hi2, List.append_assoc] at this
      have em : (marks v l.length)[i] = markAt v i := by
        have h1 := marks_at v l.length i hi' z109
        rw [List.getD_eq_getElem?_getD, List.getElem?_eq_getElem hi2] at h1
        exact h1
      rw [em] at this
      rw [show v + 2 * (i : Int) + 1 + 1 = v + 2 * ((i + 1 : Nat) : Int) by omega]
      exact this
  intro k hk
  have := main l.length 0 (by omega) k hk
  rw [List.take_zero, List.drop_zero, List.nil_append] at this
  unfold laws_markColumnS.f
  simpa using this
theorem held_ok (n : Nat) (hn : n ≤ 10000000) (v : Int) (h0 : 0 ≤ v) (h1 : v ≤ 100000000) : ∀ k, n + 1 ≤ k → laws_heldColumnS.f k (marks v n) v = some (v + 2 * n) := by
  intro k hk
  have := go_all (fun k i => laws_heldColumnS.l0 k (marks v n) (v + 2 * i) i) n 0 1 (v + 2 * n) ?_ ?_ k (by omega)
  · unfold laws_heldColumnS.f
    simpa using this
  · intro k j _ hj
    show laws_heldColumnS.l0 (k + 1) (marks v n) (v + 2 * (j : Int)) (j : Int) = _
    have hr : rd_T109 (marks v n) (j : Int) = markAt v j := marks_at v n j hj _
    have e1 : wrap64 (v + 2 * (j : Int) + 1) = v + 2 * j + 1 := w64g (by omega)
    rw [laws_heldColumnS.l0, if_pos (by rw [marks_len]; omega), if_pos (by omega), hr, if_pos (show (markAt v j).f0 = v + 2 * (j : Int) from rfl), e1, if_neg (by simp [markAt]), w64g (n := v + 2 * (j : Int) + 1 + 1) (by omega), show wrap64 ((j : Int) + 1) = ((j + 1 : Nat) : Int) by rw [w64g (by omega)]; omega, show v + 2 * (j : Int) + 1 + 1 = v + 2 * ((j + 1 : Nat) : Int) by omega]
  · intro k _
    show laws_heldColumnS.l0 (k + 1) (marks v n) (v + 2 * (n : Int)) (n : Int) = _
    rw [laws_heldColumnS.l0, if_neg (by rw [marks_len]; omega)]

end Go.Proofs.Ytikjhhjmdknhiaa.Pure
set_option linter.unusedVariables false
set_option linter.unusedSimpArgs false
namespace Go.Proofs.Ytikjhhjmdknhiaa.Pure
open Go.RowKit Go.Proofs.Ytikjhhjmdknhiaa.X Go.Proofs.YtikjhhjmdknhiaaV.PrintWords Go.Proofs.YtikjhhjmdknhiaaV.PrintLast Go.Proofs.YtikjhhjmdknhiaaV.PrintMore

theorem toIntS_eq (l : List Int) (hl : l.length ≤ 1000000000) : ∀ k, l.length + 1 ≤ k → laws_toIntS.f k l = some l := by
  intro k hk
  unfold laws_toIntS.f
  rw [if_pos (by omega), if_pos (by omega)]
  refine copy_all (fun k x i => laws_toIntS.l0 k l x i) l _ (by rw [List.length_replicate]; omega) 0 ?_ ?_ k hk
  · intro k x j hj hx
    show laws_toIntS.l0 (k + 1) l x j = _
    simp only [laws_toIntS.l0]
    rw [if_pos (by omega), if_pos (by omega), if_pos (by omega), show wrap64 ((j : Int) + 1) = ((j + 1 : Nat) : Int) by rw [w64g (by omega)]; omega]
    rfl
  · intro k x hx
    show laws_toIntS.l0 (k + 1) l x l.length = _
    simp only [laws_toIntS.l0]
    rw [if_neg (by omega)]
theorem eqIntS_eq (l : List Int) (hl : l.length ≤ 1000000000) : ∀ k, l.length + 1 ≤ k → laws_eqIntS.f k l l = some true := by
  intro k hk
  unfold laws_eqIntS.f
  rw [if_pos rfl]
  refine go_all (fun k i => laws_eqIntS.l0 k l l i) l.length 0 1 true ?_ ?_ k (by omega)
  · intro k j _ hj
    show laws_eqIntS.l0 (k + 1) l l j = _
    simp only [laws_eqIntS.l0]
    rw [if_pos (by omega), if_pos (by omega), if_pos (by omega), if_pos trivial, show wrap64 ((j : Int) + 1) = ((j + 1 : Nat) : Int) by rw [w64g (by omega)]; omega]
  · intro k _
    show laws_eqIntS.l0 (k + 1) l l l.length = _
    simp only [laws_eqIntS.l0]
    rw [if_neg (by omega)]
def markI (v : Int) (n : Nat) : List Int := (List.range n).map (fun i => v + Int.ofNat i)
theorem markI_len (v : Int) (n : Nat) : (markI v n).length = n := by unfold markI; rw [List.length_map, List.length_range]
theorem markI_at (v : Int) (n j : Nat) (hj : j < n) (d : Int) : (markI v n).getD j d = v + (j : Int) := by
  unfold markI
  rw [List.getD_eq_getElem?_getD, List.getElem?_map, List.getElem?_range hj]
  rfl
theorem markI_ok (l : List Int) (hl : l.length ≤ 10000000) (v : Int) (h0 : 0 ≤ v) (h1 : v ≤ 100000000) : ∀ k, l.length + 1 ≤ k → laws_markIntS.f k l v = some (v + l.length, markI v l.length) := by
  have main : ∀ e i, i + e = l.length → ∀ k, e + 1 ≤ k → laws_markIntS.l0 k ((markI v l.length).take i ++ l.drop i) (v + i) (i : Int) = some (v + l.length, markI v l.length) := by
    intro e
    induction e with
    | zero =>
      intro i hi k hk
      have hi : i = l.length := by omega
      subst hi
      obtain ⟨k, rfl⟩ : ∃ m, k = m + 1 := ⟨k - 1, by omega⟩
      have hz : ((markI v l.length).take l.length ++ l.drop l.length) = markI v l.length := by
        rw [List.drop_of_length_le (Nat.le_refl _), List.append_nil, List.take_of_length_le (by rw [markI_len]; omega)]
      rw [hz, laws_markIntS.l0, if_neg (by rw [markI_len]; omega)]
    | succ e ih =>
      intro i hi k hk
      obtain ⟨k, rfl⟩ : ∃ m, k = m + 1 := ⟨k - 1, by omega⟩
      have hi' : i < l.length := by omega
      have hi2 : i < (markI v l.length).length := by rw [markI_len]; exact hi'
      have hlt : ((markI v l.length).take i).length = i := by rw [List.length_take, markI_len]; omega
      have hlen : ((markI v l.length).take i ++ l.drop i).length = l.length := by
        rw [List.length_append, hlt, List.length_drop]
        omega
      rw [laws_markIntS.l0, if_pos (by omega), if_pos (by omega), Int.toNat_natCast, w64g (n := v + (i : Int) + 1) (by omega), show wrap64 ((i : Int) + 1) = ((i + 1 : Nat) : Int) by rw [w64g (by omega)]; omega, List.set_append_right _ _ (by omega), hlt, Nat.sub_self, List.drop_eq_getElem_cons hi', List.set_cons_zero]
      have := ih (i + 1) (by omega) k (by omega)
      have em : (markI v l.length)[i] = v + (i : Int) := by
        have h1 := markI_at v l.length i hi' 0
        rw [List.getD_eq_getElem?_getD, List.getElem?_eq_getElem hi2] at h1
        exact h1
      rw [List.take_succ_eq_append_getElem hi2, List.append_assoc, em] at this
      rw [show v + (i : Int) + 1 = v + ((i + 1 : Nat) : Int) by omega]
      exact this
  intro k hk
  have := main l.length 0 (by omega) k hk
  rw [List.take_zero, List.drop_zero, List.nil_append] at this
  unfold laws_markIntS.f
  simpa using this

end Go.Proofs.Ytikjhhjmdknhiaa.Pure
set_option linter.unusedVariables false
set_option linter.unusedSimpArgs false
namespace Go.Proofs.Ytikjhhjmdknhiaa.Pure
open Go.RowKit Go.Proofs.Ytikjhhjmdknhiaa.X Go.Proofs.YtikjhhjmdknhiaaV.PrintWords Go.Proofs.YtikjhhjmdknhiaaV.PrintLast Go.Proofs.YtikjhhjmdknhiaaV.PrintMore

theorem FnExactGroupColumns : laws_FnExactGroupColumns.Pure := by
  intro a y o t ha hy _ _
  obtain ⟨K, hK⟩ : ∃ K, 10000000 ≤ K := ⟨_, Nat.le_refl _⟩
  refine ⟨K + 1, ?_⟩
  unfold laws_FnExactGroupColumns.f laws_szColumnS.f
  by_cases hb : (y.length : Int) > 1048576
  · rw [if_pos hb]
  rw [if_neg hb]
  by_cases h : wrap64 (1048576 - (a.length : Int)) < 0
  · rw [if_pos h, Option.bind_some, if_pos (by decide)]
  obtain ⟨hm, hw⟩ := szC a ha.1 1048576 (by decide) (by decide) h
  rw [if_neg h, Option.bind_some, if_neg h]
  have la : (a.map mkC).length = a.length := List.length_map _
  have ta : ∀ k, K ≤ k → laws_toColumnS.f k a = some (a.map mkC) := fun k hk => toColumnS_eq a (by omega) k (by omega)
  have ty : ∀ k, K ≤ k → laws_toIntS.f k y = some y := fun k hk => toIntS_eq y (by omega) k (by omega)
  obtain ⟨r, hr, hrl⟩ := groups_both (a.map mkC) (by omega) y (by omega) o t
  have er : ∀ k, K ≤ k → laws_eqColumnS.f k r r = some true := fun k hk => eqColumnS_eq r (by omega) k (by omega)
  rw [ta _ (by omega), Option.bind_some, ty _ (by omega), Option.bind_some, (hr _ (by omega)).2, Option.bind_some, Option.bind_some, Option.bind_some, (hr _ (by omega)).1, Option.bind_some, er _ (by omega), Option.bind_some, if_pos rfl, Option.bind_some, eqColumnS_eq _ (by omega) _ (by omega), Option.bind_some, if_pos rfl, Option.bind_some, eqIntS_eq _ (by omega) _ (by omega), Option.bind_some, if_pos rfl]
  rw [mark_ok (a.map mkC) (by omega) 1 (by decide) (by decide) _ (by omega), Option.bind_some, markI_ok y (by omega) _ (by omega) (by omega) _ (by omega), Option.bind_some, if_neg (by omega), Option.bind_some, laws_FnExactGroupColumns.j0, if_neg (by decide), mark_ok r (by omega) 1 (by decide) (by decide) K (by omega), Option.bind_some]
  show ((laws_heldColumnS.f K (marks 1 r.length) 1).bind _) = _
  rw [held_ok r.length (by omega) 1 (by decide) (by decide) K (by omega), Option.bind_some, if_neg (by omega), if_pos rfl, ta K (by omega), Option.bind_some, ty K (by omega), Option.bind_some, (hr K (by omega)).1, Option.bind_some, er K (by omega), Option.bind_some, if_pos rfl, Option.bind_some, if_neg (by omega), if_pos rfl]

end Go.Proofs.Ytikjhhjmdknhiaa.Pure
