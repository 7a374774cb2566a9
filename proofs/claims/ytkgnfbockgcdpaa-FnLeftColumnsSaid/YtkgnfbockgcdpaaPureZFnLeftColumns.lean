/- Left columns may be empty: FnLeftColumns returns true for every list of bytes; no condition. -/
import Derived.Test.YtkgnfbockgcdpaaVMore
import Derived.Test.YtkgnfbockgcdpaaX0
import Derived.Test.YtkgnfbockgcdpaaZFnLeftColumns3
set_option linter.unusedVariables false
set_option linter.unusedSimpArgs false
namespace Go.Proofs.Ytkgnfbockgcdpaa.Pure
open Go.RowKit Go.Proofs.YtkgnfbockgcdpaaV.PrintWords Go.Proofs.YtkgnfbockgcdpaaV.PrintLast Go.Proofs.YtkgnfbockgcdpaaV.PrintMore

theorem w64g {n : Int} (h : -9223372036854775808 ≤ n ∧ n ≤ 9223372036854775807) : wrap64 n = n := by unfold wrap64; omega
theorem scan_all (F : Nat → Int → Option Bool) (n K : Nat) (G : Nat → Prop) (fin : Bool)
    (h1 : ∀ k j, K ≤ k → j < n → G j → F (k + 1) (j : Int) = F k ((j + 1 : Nat) : Int))
    (h2 : ∀ k j, K ≤ k → j < n → ¬ G j → F (k + 1) (j : Int) = some false)
    (h3 : ∀ k, K ≤ k → F (k + 1) (n : Int) = some fin) :
    ∃ b, (∀ k, n + 1 + K ≤ k → F k 0 = some b) ∧ (b = true ↔ ((∀ j, j < n → G j) ∧ fin = true)) := by
  have main : ∀ d i, i + d = n → ∃ b, (∀ k, d + 1 + K ≤ k → F k (i : Int) = some b) ∧ (b = true ↔ ((∀ j, i ≤ j → j < n → G j) ∧ fin = true)) := by
    intro d
    induction d with
    | zero =>
      intro i hi
      have hi : i = n := by omega
      subst hi
      refine ⟨fin, fun k hk => ?_, ⟨fun h => ⟨fun j h1 h2 => by omega, h⟩, fun h => h.2⟩⟩
      obtain ⟨k, rfl⟩ : ∃ m, k = m + 1 := ⟨k - 1, by omega⟩
      exact h3 k (by omega)
    | succ d ih =>
      intro i hi
      by_cases g : G i
      · obtain ⟨b, hb, hb'⟩ := ih (i + 1) (by omega)
        refine ⟨b, fun k hk => ?_, ?_⟩
        · obtain ⟨k, rfl⟩ : ∃ m, k = m + 1 := ⟨k - 1, by omega⟩
          rw [h1 k i (by omega) (by omega) g]
          exact hb k (by omega)
        · rw [hb']
          constructor
          · intro h
            refine ⟨fun j hj hj' => ?_, h.2⟩
            by_cases e : j = i
            · rw [e]; exact g
            · exact h.1 j (by omega) hj'
          · intro h
            exact ⟨fun j hj hj' => h.1 j (by omega) hj', h.2⟩
      · refine ⟨false, fun k hk => ?_, ?_⟩
        · obtain ⟨k, rfl⟩ : ∃ m, k = m + 1 := ⟨k - 1, by omega⟩
          exact h2 k i (by omega) (by omega) g
        · constructor
          · intro h
            cases h
          · intro h
            exact absurd (h.1 i (Nat.le_refl _) (by omega)) g
  obtain ⟨b, hb, hb'⟩ := main n 0 (by omega)
  refine ⟨b, hb, ?_⟩
  rw [hb']
  constructor
  · intro h; exact ⟨fun j hj => h.1 j (by omega) hj, h.2⟩
  · intro h; exact ⟨fun j _ hj => h.1 j hj, h.2⟩
theorem go_all {α : Type} (F : Nat → Int → Option α) (n K c : Nat) (r : α)
    (h1 : ∀ k j, K ≤ k → j < n → F (k + c) (j : Int) = F k ((j + 1 : Nat) : Int))
    (h3 : ∀ k, K ≤ k → F (k + c) (n : Int) = some r) : ∀ k, K + c * (n + 1) ≤ k → F k 0 = some r := by
  have main : ∀ d i, i + d = n → ∀ k, K + c * (d + 1) ≤ k → F k (i : Int) = some r := by
    intro d
    induction d with
    | zero =>
      intro i hi k hk
      have hi : i = n := by omega
      subst hi
      obtain ⟨k, rfl⟩ : ∃ m, k = m + c := ⟨k - c, by omega⟩
      exact h3 k (by omega)
    | succ d ih =>
      intro i hi k hk
      have e : c * (d + 1 + 1) = c * (d + 1) + c := Nat.mul_succ _ _
      obtain ⟨k, rfl⟩ : ∃ m, k = m + c := ⟨k - c, by omega⟩
      rw [h1 k i (by omega) (by omega)]
      exact ih (i + 1) (by omega) k (by omega)
  exact main n 0 (by omega)
theorem copy_all {β : Type} (F : Nat → List β → Int → Option (List β)) (L : List β) (x0 : List β) (hx : x0.length = L.length) (d : β)
    (h1 : ∀ k (x : List β) j, j < L.length → x.length = L.length → F (k + 1) x (j : Int) = F k (x.set j (L.getD j d)) ((j + 1 : Nat) : Int))
    (h3 : ∀ k x, x.length = L.length → F (k + 1) x (L.length : Int) = some x) : ∀ k, L.length + 1 ≤ k → F k x0 0 = some L := by
  have main : ∀ e i, i + e = L.length → ∀ k, e + 1 ≤ k → F k (L.take i ++ x0.drop i) (i : Int) = some L := by
    intro e
    induction e with
    | zero =>
      intro i hi k hk
      have hi : i = L.length := by omega
      subst hi
      obtain ⟨k, rfl⟩ : ∃ m, k = m + 1 := ⟨k - 1, by omega⟩
      rw [h3 k _ (by simp [hx]), List.take_length, List.drop_of_length_le (by omega), List.append_nil]
    | succ e ih =>
      intro i hi k hk
      obtain ⟨k, rfl⟩ : ∃ m, k = m + 1 := ⟨k - 1, by omega⟩
      have hlen : (L.take i ++ x0.drop i).length = L.length := by
        rw [List.length_append, List.length_take, List.length_drop]
        omega
      rw [h1 k _ i (by omega) hlen]
      have hi' : i < L.length := by omega
      have hi2 : i < x0.length := by omega
      have e2 : (L.take i ++ x0.drop i).set i (L.getD i d) = L.take (i + 1) ++ x0.drop (i + 1) := by
        rw [List.set_append_right _ _ (by rw [List.length_take]; omega), List.length_take, show i - min i L.length = 0 by omega, List.drop_eq_getElem_cons hi2, List.set_cons_zero]
        rw [List.take_succ_eq_append_getElem hi', List.append_assoc]
        congr 1
        rw [List.getD_eq_getElem?_getD, List.getElem?_eq_getElem hi']
        rfl
      rw [e2]
      exact ih (i + 1) (by omega) k (by omega)
  intro k hk
  have := main L.length 0 (by omega) k hk
  simpa using this
theorem chain_iff {α : Type} (d : α) (Q : α → Prop) (R : α → α → Prop) (tr : ∀ a b c, R a b → R b c → R a c) (l : List α) :
    (∀ j, j < l.length → Q (l.getD j d) ∧ (0 < j → R (l.getD (j - 1) d) (l.getD j d))) ↔ ((∀ x ∈ l, Q x) ∧ l.Pairwise R) := by
  have gd : ∀ j (h : j < l.length), l.getD j d = l[j] := by
    intro j h
    rw [List.getD_eq_getElem?_getD, List.getElem?_eq_getElem h]
    rfl
  constructor
  · intro h
    refine ⟨fun x hx => ?_, ?_⟩
    · obtain ⟨j, hj, rfl⟩ := List.getElem_of_mem hx
      rw [← gd j hj]
      exact (h j hj).1
    · rw [List.pairwise_iff_getElem]
      have main : ∀ e i (hi : i < l.length) (hj : i + e + 1 < l.length), R l[i] l[i + e + 1] := by
        intro e
        induction e with
        | zero =>
          intro i hi hj
          have := (h (i + 0 + 1) hj).2 (by omega)
          rw [gd _ (show i + 0 + 1 - 1 < l.length by omega), gd _ hj] at this
          exact this
        | succ e ih =>
          intro i hi hj
          have h1 := ih i hi (by omega)
          have := (h (i + (e + 1) + 1) hj).2 (by omega)
          rw [gd _ (show i + (e + 1) + 1 - 1 < l.length by omega), gd _ hj] at this
          exact tr _ _ _ h1 this
      intro i j hi hj hij
      obtain ⟨e, rfl⟩ : ∃ e, j = i + e + 1 := ⟨j - i - 1, by omega⟩
      exact main e i hi hj
  · intro h j hj
    refine ⟨?_, fun h0 => ?_⟩
    · rw [gd j hj]
      exact h.1 _ (List.getElem_mem hj)
    · rw [gd j hj, gd (j - 1) (by omega)]
      exact List.pairwise_iff_getElem.1 h.2 (j - 1) j (by omega) hj (by omega)
/-- What holds of a chain holds of the chain without one of its elements. -/
theorem chain_less {α : Type} {Q : α → Prop} {R : α → α → Prop} {l : List α} (h : (∀ x ∈ l, Q x) ∧ l.Pairwise R) (a b : Nat) (hab : a ≤ b) :
    (∀ x ∈ l.take a ++ l.drop b, Q x) ∧ (l.take a ++ l.drop b).Pairwise R := by
  have sub : (l.take a ++ l.drop b).Sublist l := by
    have h1 : (l.take a ++ l.drop b).Sublist (l.take a ++ l.drop a) := by
      apply List.Sublist.append (List.Sublist.refl _)
      rw [show b = a + (b - a) by omega, ← List.drop_drop]
      exact List.drop_sublist _ _
    rwa [List.take_append_drop] at h1
  exact ⟨fun x hx => h.1 x (sub.subset hx), h.2.sublist sub⟩
theorem go_all2 {α : Type} (F : Nat → Int → Option α) (n K : Nat) (r : α)
    (h1 : ∀ k j, K ≤ k → j < n → F (k + 1 + 1) (j : Int) = F k ((j + 1 : Nat) : Int))
    (h3 : ∀ k, K ≤ k → F (k + 1 + 1) (n : Int) = some r) : ∀ k, K + 2 * (n + 1) ≤ k → F k 0 = some r :=
  go_all F n K 2 r h1 h3
theorem any_ok {α : Type} (F : Nat → Int → Option α) (n K : Nat)
    (h1 : ∀ j, j < n → (∃ r, ∀ k, K ≤ k → F (k + 1) (j : Int) = some r) ∨ (∀ k, K ≤ k → F (k + 1) (j : Int) = F k ((j + 1 : Nat) : Int)))
    (h3 : ∃ r, ∀ k, K ≤ k → F (k + 1) (n : Int) = some r) : ∃ r, ∀ k, n + 1 + K ≤ k → F k 0 = some r := by
  have main : ∀ d i, i + d = n → ∃ r, ∀ k, d + 1 + K ≤ k → F k (i : Int) = some r := by
    intro d
    induction d with
    | zero =>
      intro i hi
      have hi : i = n := by omega
      subst hi
      obtain ⟨r, hr⟩ := h3
      refine ⟨r, fun k hk => ?_⟩
      obtain ⟨k, rfl⟩ : ∃ m, k = m + 1 := ⟨k - 1, by omega⟩
      exact hr k (by omega)
    | succ d ih =>
      intro i hi
      rcases h1 i (by omega) with ⟨r, hr⟩ | h
      · refine ⟨r, fun k hk => ?_⟩
        obtain ⟨k, rfl⟩ : ∃ m, k = m + 1 := ⟨k - 1, by omega⟩
        exact hr k (by omega)
      · obtain ⟨r, hr⟩ := ih (i + 1) (by omega)
        refine ⟨r, fun k hk => ?_⟩
        obtain ⟨k, rfl⟩ : ∃ m, k = m + 1 := ⟨k - 1, by omega⟩
        rw [h k (by omega)]
        exact hr k (by omega)
  exact main n 0 (by omega)

end Go.Proofs.Ytkgnfbockgcdpaa.Pure
set_option linter.unusedVariables false
set_option linter.unusedSimpArgs false
namespace Go.Proofs.Ytkgnfbockgcdpaa.Pure
open Go.RowKit Go.Proofs.Ytkgnfbockgcdpaa.X Go.Proofs.YtkgnfbockgcdpaaV.PrintWords Go.Proofs.YtkgnfbockgcdpaaV.PrintLast Go.Proofs.YtkgnfbockgcdpaaV.PrintMore

theorem between_eq (a lo hi : Int) : impl_between.f a lo hi = some (decide (lo ≤ a ∧ a ≤ hi)) := by
  unfold impl_between.f
  by_cases h : a ≥ lo
  · rw [if_pos h]
    by_cases g : a ≤ hi
    · rw [decide_eq_true g, decide_eq_true ⟨h, g⟩]
    · rw [decide_eq_false g, decide_eq_false (fun h' => g h'.2)]
  · rw [if_neg h, decide_eq_false (fun h' => h h'.1)]

end Go.Proofs.Ytkgnfbockgcdpaa.Pure
set_option linter.unusedVariables false
set_option linter.unusedSimpArgs false
namespace Go.Proofs.Ytkgnfbockgcdpaa.Pure
open Go.RowKit Go.Proofs.Ytkgnfbockgcdpaa.X Go.Proofs.YtkgnfbockgcdpaaV.PrintWords Go.Proofs.YtkgnfbockgcdpaaV.PrintLast Go.Proofs.YtkgnfbockgcdpaaV.PrintMore

theorem l1In_eq (a lo hi : Int) : spec_l1In.f a lo hi = some (decide (lo ≤ a ∧ a ≤ hi)) := by
  unfold spec_l1In.f
  by_cases h : a ≥ lo
  · rw [if_pos h]
    by_cases g : a ≤ hi
    · rw [decide_eq_true g, decide_eq_true ⟨h, g⟩]
    · rw [decide_eq_false g, decide_eq_false (fun h' => g h'.2)]
  · rw [if_neg h, decide_eq_false (fun h' => h h'.1)]

end Go.Proofs.Ytkgnfbockgcdpaa.Pure
set_option linter.unusedVariables false
set_option linter.unusedSimpArgs false
namespace Go.Proofs.Ytkgnfbockgcdpaa.Pure
open Go.RowKit Go.Proofs.Ytkgnfbockgcdpaa.X Go.Proofs.YtkgnfbockgcdpaaV.PrintWords Go.Proofs.YtkgnfbockgcdpaaV.PrintLast Go.Proofs.YtkgnfbockgcdpaaV.PrintMore

abbrev OkC (x : S48) : Prop := 1 ≤ x.f0 ∧ x.f0 ≤ 3
theorem rdC_nat (l : List S48) (j : Nat) : rd_T48 l (j : Int) = l.getD j z48 := rfl
theorem getD_mem {α : Type} (l : List α) (d : α) (j : Nat) (hj : j < l.length) : l.getD j d ∈ l := by
  rw [List.getD_eq_getElem?_getD, List.getElem?_eq_getElem hj]
  exact List.getElem_mem hj
theorem all_getD {α : Type} (l : List α) (d : α) (P : α → Prop) : (∀ j, j < l.length → P (l.getD j d)) ↔ ∀ x ∈ l, P x := by
  constructor
  · intro h x hx
    obtain ⟨j, hj, rfl⟩ := List.getElem_of_mem hx
    have := h j hj
    rw [List.getD_eq_getElem?_getD, List.getElem?_eq_getElem hj] at this
    exact this
  · intro h j hj
    exact h _ (getD_mem l d j hj)
theorem spec_cols (l : List S48) (hl : l.length ≤ 1000000000) : ∃ b, (∀ k, l.length + 1 ≤ k → spec_ColumnsOk.f k l = some b) ∧ (b = true ↔ ((∀ x ∈ l, OkC x) ∧ l.length ≤ 4)) := by
  obtain ⟨b, hb, hb'⟩ := scan_all (fun k i => spec_ColumnsOk.l0 k l i) l.length 0 (fun j => OkC (l.getD j z48)) (decide ((l.length : Int) ≤ 4))
    (by
      intro k j _ hj g
      show spec_ColumnsOk.l0 (k + 1) l j = _
      rw [spec_ColumnsOk.l0, if_pos (by omega), if_pos (by omega), rdC_nat, l1In_eq, Option.bind_some, if_pos (decide_eq_true g), show wrap64 ((j : Int) + 1) = ((j + 1 : Nat) : Int) by rw [w64g (by omega)]; omega])
    (by
      intro k j _ hj g
      show spec_ColumnsOk.l0 (k + 1) l j = _
      rw [spec_ColumnsOk.l0, if_pos (by omega), if_pos (by omega), rdC_nat, l1In_eq, Option.bind_some, if_neg (fun h => g (of_decide_eq_true h))])
    (by
      intro k _
      show spec_ColumnsOk.l0 (k + 1) l l.length = _
      rw [spec_ColumnsOk.l0, if_neg (by omega)])
  refine ⟨b, fun k hk => hb k (by omega), ?_⟩
  rw [hb', decide_eq_true_iff, all_getD l z48 OkC]
  exact ⟨fun h => ⟨h.1, by omega⟩, fun h => ⟨h.1, by omega⟩⟩
theorem impl_cols (l : List S48) : ∃ b, impl_ColumnsOk.f l = some b ∧ (b = true ↔ ((∀ x ∈ l, OkC x) ∧ l.length ≤ 4)) := by
  refine ⟨_, rfl, ?_⟩
  rw [Bool.and_eq_true, decide_eq_true_iff, List.all_eq_true]
  constructor
  · intro h
    exact ⟨fun x hx => of_decide_eq_true (h.2 x hx), h.1⟩
  · intro h
    exact ⟨h.2, fun x hx => decide_eq_true (h.1 x hx)⟩
theorem eqColumnS_eq (l : List S48) (hl : l.length ≤ 1000000000) : ∀ k, l.length + 1 ≤ k → laws_eqColumnS.f k l l = some true := by
  intro k hk
  unfold laws_eqColumnS.f
  rw [if_pos rfl]
  refine go_all (fun k i => laws_eqColumnS.l0 k l l i) l.length 0 1 true ?_ ?_ k (by omega)
  · intro k j _ hj
    show laws_eqColumnS.l0 (k + 1) l l j = _
    rw [laws_eqColumnS.l0, if_pos (by omega), if_pos (by omega), if_pos (by omega), laws_eqColumn.f, if_pos rfl, if_neg (by simp), Option.bind_some, if_pos rfl, show wrap64 ((j : Int) + 1) = ((j + 1 : Nat) : Int) by rw [w64g (by omega)]; omega]
  · intro k _
    show laws_eqColumnS.l0 (k + 1) l l l.length = _
    rw [laws_eqColumnS.l0, if_neg (by omega)]

end Go.Proofs.Ytkgnfbockgcdpaa.Pure
set_option linter.unusedVariables false
set_option linter.unusedSimpArgs false
namespace Go.Proofs.Ytkgnfbockgcdpaa.Pure
open Go.RowKit Go.Proofs.Ytkgnfbockgcdpaa.X Go.Proofs.YtkgnfbockgcdpaaV.PrintWords Go.Proofs.YtkgnfbockgcdpaaV.PrintLast Go.Proofs.YtkgnfbockgcdpaaV.PrintMore

def wideC (x : S48) : S48 := ⟨x.f0, true⟩
def LOk (c d : List S48) : Prop := ((∀ x ∈ c, OkC x) ∧ c.length ≤ 4) ∧ ((∀ x ∈ d, OkC x) ∧ d.length ≤ 4) ∧ c.length + d.length ≤ 4
theorem impl_left_loop (d : List S48) (hd : d.length ≤ 1000) : ∀ (e i : Nat) (x : List S48), i + e = d.length → x.length + e ≤ 1000 →
    ∀ k, e + 1 ≤ k → impl_LeftColumns.l0 k x d (d.length : Int) (i : Int) = some (x ++ (d.drop i).map wideC) := by
  intro e
  induction e with
  | zero =>
    intro i x hi hx k hk
    obtain ⟨k, rfl⟩ : ∃ m, k = m + 1 := ⟨k - 1, by omega⟩
    rw [impl_LeftColumns.l0, if_neg (by omega), impl_Column_66.f, if_pos (by omega), Option.bind_some, List.drop_of_length_le (by omega), List.map_nil, List.append_nil]
  | succ e ih =>
    intro i x hi hx k hk
    obtain ⟨k, rfl⟩ : ∃ m, k = m + 1 := ⟨k - 1, by omega⟩
    have hi' : i < d.length := by omega
    rw [impl_LeftColumns.l0, if_pos (by omega), if_pos (by omega), if_pos (by omega), if_pos (by omega), show wrap64 ((i : Int) + 1) = ((i + 1 : Nat) : Int) by rw [w64g (by omega)]; omega]
    rw [ih (i + 1) _ (by omega) (by rw [List.length_append]; simp; omega) k (by omega), List.append_assoc, List.drop_eq_getElem_cons hi', List.map_cons]
    have : (rd_T48 d (i : Int)) = d[i] := by
      rw [rdC_nat, List.getD_eq_getElem?_getD, List.getElem?_eq_getElem hi']
      rfl
    rw [this]
    rfl
theorem impl_left (c d : List S48) (k : Nat) (hk : 10 ≤ k) : (LOk c d → impl_LeftColumns.f k c d = some (c ++ d.map wideC)) ∧ (¬ LOk c d → impl_LeftColumns.f k c d = some []) := by
  obtain ⟨b1, e1, h1⟩ := impl_cols c
  obtain ⟨b2, e2, h2⟩ := impl_cols d
  obtain ⟨k, rfl⟩ : ∃ m, k = m + 1 := ⟨k - 1, by omega⟩
  have jt : impl_LeftColumns.j0 (k + 1) c d true = some [] := by rw [impl_LeftColumns.j0, if_pos rfl]
  constructor
  · intro h
    have := h.2.2
    unfold impl_LeftColumns.f
    rw [e1, Option.bind_some, if_pos (h1.2 h.1), e2, Option.bind_some, if_pos (h2.2 h.2.1), impl_LeftColumns.j0, if_neg (by rw [w64g (by omega), decide_eq_true_iff]; omega), impl_Column_66.f, if_pos (by omega), Option.bind_some]
    have := impl_left_loop d (by omega) d.length 0 c (by omega) (by omega) k (by omega)
    rw [List.drop_zero] at this
    exact this
  · intro h
    unfold impl_LeftColumns.f
    rw [e1, Option.bind_some]
    by_cases c1 : b1 = true
    · rw [if_pos c1, e2, Option.bind_some]
      by_cases c2 : b2 = true
      · have g1 := h1.1 c1
        have g2 := h2.1 c2
        have : ¬ (c.length + d.length ≤ 4) := fun g => h ⟨g1, g2, g⟩
        rw [if_pos c2, impl_LeftColumns.j0, if_pos (by rw [w64g (by omega), decide_eq_true_iff]; omega)]
      · rw [if_neg c2, jt]
    · rw [if_neg c1, jt]
theorem empty_loop (d : List S48) (hd : d.length ≤ 1000000000) : ∀ (e i : Nat), i + e = d.length → ∀ k, e + 1 ≤ k → spec_l24Empty.l0 k ((d.map wideC).take i ++ d.drop i) (i : Int) = some (d.map wideC) := by
  intro e
  induction e with
  | zero =>
    intro i hi k hk
    have hi : i = d.length := by omega
    subst hi
    obtain ⟨k, rfl⟩ : ∃ m, k = m + 1 := ⟨k - 1, by omega⟩
    have hz : ((d.map wideC).take d.length ++ d.drop d.length) = d.map wideC := by
      rw [List.drop_of_length_le (Nat.le_refl _), List.append_nil, List.take_of_length_le (by rw [List.length_map]; omega)]
    rw [hz, spec_l24Empty.l0, if_neg (by rw [List.length_map]; omega)]
  | succ e ih =>
    intro i hi k hk
    obtain ⟨k, rfl⟩ : ∃ m, k = m + 1 := ⟨k - 1, by omega⟩
    have hi' : i < d.length := by omega
    have hi2 : i < (d.map wideC).length := by rw [List.length_map]; exact hi'
    have hlen : ((d.map wideC).take i ++ d.drop i).length = d.length := by
      rw [List.length_append, List.length_take, List.length_drop, List.length_map]
      omega
    have hlt : ((d.map wideC).take i).length = i := by rw [List.length_take, List.length_map]; omega
    have hrd : rd_T48 ((d.map wideC).take i ++ d.drop i) (i : Int) = d[i] := by
      rw [rdC_nat, List.getD_eq_getElem?_getD, List.getElem?_append_right (by omega), hlt, Nat.sub_self, List.drop_eq_getElem_cons hi']
      rfl
    rw [spec_l24Empty.l0, if_pos (by omega), if_pos (by omega), hrd, Int.toNat_natCast, show wrap64 ((i : Int) + 1) = ((i + 1 : Nat) : Int) by rw [w64g (by omega)]; omega]
    rw [List.set_append_right _ _ (by omega), hlt, Nat.sub_self, List.drop_eq_getElem_cons hi', List.set_cons_zero]
    have := ih (i + 1) (by omega) k (by omega)
    rw [List.take_succ_eq_append_getElem hi2, List.append_assoc, List.getElem_map] at this
    exact this
theorem spec_left (c d : List S48) (hc : c.length ≤ 10000000) (hd : d.length ≤ 10000000) (k : Nat) (hk : c.length + d.length + 10 ≤ k) : (LOk c d → spec_LeftColumns.f k c d = some (c ++ d.map wideC)) ∧ (¬ LOk c d → spec_LeftColumns.f k c d = some []) := by
  obtain ⟨b1, e1, h1⟩ := spec_cols c (by omega)
  obtain ⟨b2, e2, h2⟩ := spec_cols d (by omega)
  have he : spec_l24Empty.f k d = some (d.map wideC) := by
    unfold spec_l24Empty.f
    rw [Option.bind_some, if_pos (by simp only [List.length_nil]; omega), List.nil_append]
    have := empty_loop d (by omega) d.length 0 (by omega) k (by omega)
    rw [List.take_zero, List.drop_zero, List.nil_append] at this
    exact this
  have hu : spec_LeftColumns.f k c d = (if b1 = true then (if b2 = true then (if ((c ++ d.map wideC).length : Int) > 4 then (some ([] : List S48)) else (some (c ++ d.map wideC))) else (some [])) else (some [])) := by
    unfold spec_LeftColumns.f
    rw [Option.bind_some, if_pos (by simp only [List.length_nil]; omega), Option.bind_some, he, Option.bind_some, if_pos (by simp only [List.length_append, List.length_nil, List.length_map]; omega), Option.bind_some, e1 _ (by omega), Option.bind_some, e2 _ (by omega), Option.bind_some, List.nil_append]
  have hlen : (c ++ d.map wideC).length = c.length + d.length := by rw [List.length_append, List.length_map]
  constructor
  · intro h
    have := h.2.2
    rw [hu, if_pos (h1.2 h.1), if_pos (h2.2 h.2.1), if_neg (by omega)]
  · intro h
    rw [hu]
    by_cases c1 : b1 = true
    · rw [if_pos c1]
      by_cases c2 : b2 = true
      · have g1 := h1.1 c1
        have g2 := h2.1 c2
        have : ¬ (c.length + d.length ≤ 4) := fun g => h ⟨g1, g2, g⟩
        rw [if_pos c2, if_pos (by omega)]
      · rw [if_neg c2]
    · rw [if_neg c1]
theorem left_both (c d : List S48) (hc : c.length ≤ 10000000) (hd : d.length ≤ 10000000) : ∃ r, (∀ k, c.length + d.length + 10 ≤ k → impl_LeftColumns.f k c d = some r ∧ spec_LeftColumns.f k c d = some r) ∧ r.length ≤ 4 ∧ (∀ x ∈ r, OkC x) ∧ (∀ j, c.length ≤ j → j < r.length → (r.getD j z48).f1 = true) := by
  by_cases h : LOk c d
  · refine ⟨c ++ d.map wideC, fun k hk => ⟨(impl_left c d k (by omega)).1 h, (spec_left c d hc hd k hk).1 h⟩, by rw [List.length_append, List.length_map]; exact h.2.2, fun x hx => ?_, fun j hj hj' => ?_⟩
    · rcases List.mem_append.1 hx with g | g
      · exact h.1.1 x g
      · obtain ⟨y, hy, rfl⟩ := List.mem_map.1 g
        exact h.2.1.1 y hy
    · rw [List.length_append, List.length_map] at hj'
      rw [List.getD_eq_getElem?_getD, List.getElem?_append_right hj, List.getElem?_map, List.getElem?_eq_getElem (by omega)]
      rfl
  · exact ⟨[], fun k hk => ⟨(impl_left c d k (by omega)).2 h, (spec_left c d hc hd k hk).2 h⟩, by simp, fun x hx => absurd hx List.not_mem_nil, fun j _ hj => absurd hj (Nat.not_lt_zero _)⟩

end Go.Proofs.Ytkgnfbockgcdpaa.Pure
set_option linter.unusedVariables false
set_option linter.unusedSimpArgs false
namespace Go.Proofs.Ytkgnfbockgcdpaa.Pure
open Go.RowKit Go.Proofs.Ytkgnfbockgcdpaa.X Go.Proofs.YtkgnfbockgcdpaaV.PrintWords Go.Proofs.YtkgnfbockgcdpaaV.PrintLast Go.Proofs.YtkgnfbockgcdpaaV.PrintMore

theorem w64 {n : Int} (h : -9223372036854775808 ≤ n ∧ n ≤ 9223372036854775807) : wrap64 n = n := by unfold wrap64; omega
theorem xor_range (a b : Int) (ha : 0 ≤ a) (ha2 : a < 4294967296) (hb : 0 ≤ b) (hb2 : b < 4294967296) : 0 ≤ Go.bits .xor .i64 a b ∧ Go.bits .xor .i64 a b < 4294967296 := by
  obtain ⟨x, rfl⟩ := Int.eq_ofNat_of_zero_le ha
  obtain ⟨y, rfl⟩ := Int.eq_ofNat_of_zero_le hb
  have hx : x < 2 ^ 32 := by omega
  have hy : y < 2 ^ 32 := by omega
  have h1 : x % 2 ^ IntKind.i64.bits = x := Nat.mod_eq_of_lt (Nat.lt_of_lt_of_le hx (by decide))
  have h2 : y % 2 ^ IntKind.i64.bits = y := Nat.mod_eq_of_lt (Nat.lt_of_lt_of_le hy (by decide))
  have hz : x ^^^ y < 2 ^ 32 := Nat.xor_lt_two_pow hx hy
  have e : Go.bits .xor .i64 (x : Int) (y : Int) = ((x ^^^ y : Nat) : Int) := by
    simp only [Go.bits, BitVec.ofInt_natCast, BitVec.toNat_xor, BitVec.toNat_ofNat, h1, h2]
    rw [IntKind.wrap_i64]
    omega
  rw [e]
  omega
/-- At most 2000 bytes. -/
def Bytes (s : List Int) : Prop := s.length ≤ 2000 ∧ ∀ x ∈ s, 0 ≤ x ∧ x ≤ 255
theorem rd_byte {s : List Int} (hs : Bytes s) (i : Int) : 0 ≤ rd s i ∧ rd s i ≤ 255 := by
  unfold rd
  rw [List.getD_eq_getElem?_getD]
  cases h : s[i.toNat]? with
  | none => simp
  | some x => exact hs.2 x (List.mem_of_getElem? h)
theorem tmod_range {a b : Int} (ha : 0 ≤ a) (hb : 0 < b) : 0 ≤ Int.tmod a b ∧ Int.tmod a b < b := by
  rw [Int.tmod_eq_emod_of_nonneg ha]
  exact ⟨Int.emod_nonneg a (by omega), Int.emod_lt_of_pos a hb⟩
theorem pick_ok {s : List Int} (hs : Bytes s) (p n : Int) (hp : 0 ≤ p) (hp2 : p ≤ 1000000) (hn2 : n ≤ 1000000) :
    ∃ r, (∀ k, 1 ≤ k → spec_l20Rd_pick.f k s p n = some (r, p + 1)) ∧ 0 ≤ r ∧ (1 ≤ n → r < n) ∧ (n < 1 → r = 0) := by
  have e1 : wrap64 (p + 1) = p + 1 := w64 (by omega)
  have e2 : wrap64 (p + 1 - 1) = p := by rw [w64 (by omega)]; omega
  by_cases hn : n < 1
  · refine ⟨0, fun k hk => ?_, Int.le_refl _, fun h => by omega, fun _ => rfl⟩
    obtain ⟨k, rfl⟩ : ∃ m, k = m + 1 := ⟨k - 1, by omega⟩
    unfold spec_l20Rd_pick.f
    rw [if_pos hn, e1]
    simp only [spec_l20Rd_pick.j0]
    rw [if_pos (by decide)]
  by_cases hl : (s.length : Int) = 0
  · refine ⟨0, fun k hk => ?_, Int.le_refl _, fun h => by omega, fun _ => rfl⟩
    obtain ⟨k, rfl⟩ : ∃ m, k = m + 1 := ⟨k - 1, by omega⟩
    unfold spec_l20Rd_pick.f
    rw [if_neg hn, e1, beq_iff_eq.2 hl]
    simp only [spec_l20Rd_pick.j0]
    rw [if_pos (by decide)]
  have hl1 : ((s.length : Int) == 0) = false := by rw [beq_eq_false_iff_ne]; exact hl
  have hl2 : 0 < (s.length : Int) := by omega
  by_cases hlt : p < (s.length : Int)
  · have hr := rd_byte hs p
    have e3 : wrap64 (rd s p) = rd s p := w64 (by omega)
    have ht := tmod_range hr.1 (show (0 : Int) < n by omega)
    refine ⟨Int.tmod (rd s p) n, fun k hk => ?_, ht.1, fun _ => ht.2, fun h => by omega⟩
    obtain ⟨k, rfl⟩ : ∃ m, k = m + 1 := ⟨k - 1, by omega⟩
    unfold spec_l20Rd_pick.f
    rw [if_neg hn, e1, hl1]
    simp only [spec_l20Rd_pick.j0]
    rw [if_neg (by decide), e2, if_pos hlt, if_pos hp, if_neg (by omega), e3]
  · have hm1 := tmod_range hp hl2
    have e4 : wrap64 (wrap64 (p * 7) + 3) = p * 7 + 3 := by rw [w64 (n := p * 7) (by omega)]; exact w64 (by omega)
    have hm2 := tmod_range (show 0 ≤ p * 7 + 3 by omega) hl2
    have hd : 0 ≤ Int.tdiv p (s.length : Int) ∧ Int.tdiv p (s.length : Int) ≤ 1000000 := by
      rw [Int.tdiv_eq_ediv_of_nonneg hp]
      exact ⟨Int.ediv_nonneg hp (by omega), Int.le_trans (Int.ediv_le_self _ hp) hp2⟩
    have hb1 := rd_byte hs (Int.tmod p (s.length : Int))
    have hb2 := rd_byte hs (Int.tmod (p * 7 + 3) (s.length : Int))
    obtain ⟨b1, g1⟩ : ∃ b, rd s (Int.tmod p (s.length : Int)) = b := ⟨_, rfl⟩
    obtain ⟨b2, g2⟩ : ∃ b, rd s (Int.tmod (p * 7 + 3) (s.length : Int)) = b := ⟨_, rfl⟩
    obtain ⟨d, g3⟩ : ∃ d, Int.tdiv p (s.length : Int) = d := ⟨_, rfl⟩
    rw [g1] at hb1
    rw [g2] at hb2
    rw [g3] at hd
    have eX : wrap64 (wrap64 (wrap64 (wrap64 (wrap64 b1 * 131) + wrap64 (wrap64 b2 * 1117)) + wrap64 (p * 29)) + wrap64 (wrap64 d * 53)) = b1 * 131 + b2 * 1117 + p * 29 + d * 53 := by
      unfold wrap64
      omega
    have hX : 0 ≤ b1 * 131 + b2 * 1117 + p * 29 + d * 53 ∧ b1 * 131 + b2 * 1117 + p * 29 + d * 53 < 4294967296 := by omega
    obtain ⟨x, g4⟩ : ∃ x, b1 * 131 + b2 * 1117 + p * 29 + d * 53 = x := ⟨_, rfl⟩
    rw [g4] at eX hX
    have eY : wrap64 (Int.tdiv x 64) = x / 64 := by
      rw [Int.tdiv_eq_ediv_of_nonneg hX.1]
      exact w64 (by omega)
    have hxr := xor_range x (x / 64) hX.1 hX.2 (by omega) (by omega)
    have ht := tmod_range hxr.1 (show (0 : Int) < n by omega)
    refine ⟨Int.tmod (Go.bits .xor .i64 x (x / 64)) n, fun k hk => ?_, ht.1, fun _ => ht.2, fun h => by omega⟩
    obtain ⟨k, rfl⟩ : ∃ m, k = m + 1 := ⟨k - 1, by omega⟩
    unfold spec_l20Rd_pick.f
    rw [if_neg hn, e1, hl1]
    simp only [spec_l20Rd_pick.j0]
    rw [if_neg (by decide), e2, if_neg hlt, if_neg hl, if_pos hm1.1, if_pos hm1.2, e4, if_pos hm2.1, if_pos hm2.2, if_neg (by omega), g1, g2, g3, eX, eY]
theorem odd_ok {s : List Int} (hs : Bytes s) (p n : Int) (hp : 0 ≤ p) (hp2 : p ≤ 1000000) (hn2 : n ≤ 1000000) :
    ∃ b p', (∀ k, 1 ≤ k → spec_l20Rd_odd.f k s p n = some (b, p')) ∧ 0 ≤ p' ∧ p' ≤ p + 1 ∧ (n ≤ 0 → b = false) := by
  by_cases hn : n > 0
  · obtain ⟨r, hr, _⟩ := pick_ok hs p n hp hp2 hn2
    refine ⟨r == wrap64 (n - 1), p + 1, fun k hk => ?_, by omega, Int.le_refl _, fun h => by omega⟩
    unfold spec_l20Rd_odd.f
    rw [if_pos hn, hr k hk]
    rfl
  · refine ⟨false, p, fun k hk => ?_, hp, by omega, fun _ => rfl⟩
    unfold spec_l20Rd_odd.f
    rw [if_neg hn]
theorem bytes_take {l : List Int} (h : ∀ x ∈ l, (Lit.int .u8 x).wf = true) (n : Nat) (hn : n ≤ 2000) : Bytes (l.take n) := by
  refine ⟨by rw [List.length_take]; omega, fun x hx => ?_⟩
  have := h x (List.mem_of_mem_take hx)
  simp [Lit.wf, IntKind.min, IntKind.max, IntKind.signed, IntKind.bits] at this
  omega
theorem bytes_of {l : List Int} (h : ∀ x ∈ l, (Lit.int .u8 x).wf = true) (hn : l.length ≤ 2000) : Bytes l := by
  have := bytes_take h 2000 (Nat.le_refl _)
  rwa [List.take_of_length_le hn] at this

end Go.Proofs.Ytkgnfbockgcdpaa.Pure
set_option linter.unusedVariables false
set_option linter.unusedSimpArgs false
namespace Go.Proofs.Ytkgnfbockgcdpaa.Pure
open Go.RowKit Go.Proofs.Ytkgnfbockgcdpaa.X Go.Proofs.YtkgnfbockgcdpaaV.PrintWords Go.Proofs.YtkgnfbockgcdpaaV.PrintLast Go.Proofs.YtkgnfbockgcdpaaV.PrintMore

theorem open_ok {l : List Int} (h : ∀ x ∈ l, (Lit.int .u8 x).wf = true) : ∃ s, spec_l20Open.f l = some (s, 0) ∧ Bytes s := by
  unfold spec_l20Open.f
  by_cases hl : (l.length : Int) > 2000
  · rw [if_pos hl, if_pos (by omega)]
    exact ⟨_, rfl, bytes_take h 2000 (Nat.le_refl _)⟩
  · rw [if_neg hl]
    exact ⟨_, rfl, bytes_of h (by omega)⟩

end Go.Proofs.Ytkgnfbockgcdpaa.Pure
set_option linter.unusedVariables false
set_option linter.unusedSimpArgs false
namespace Go.Proofs.Ytkgnfbockgcdpaa.Pure
open Go.RowKit Go.Proofs.Ytkgnfbockgcdpaa.X Go.Proofs.YtkgnfbockgcdpaaV.PrintWords Go.Proofs.YtkgnfbockgcdpaaV.PrintLast Go.Proofs.YtkgnfbockgcdpaaV.PrintMore

theorem draw_cols_loop {s : List Int} (hs : Bytes s) (n : Int) (hn : n ≤ 1000) : ∀ (d : Nat) (l : List S48) (p : Int), 0 ≤ p → p + 2 * d ≤ 90000 → d ≤ 6 → l.length + d ≤ 6 →
    ∃ r p', (∀ k, d + 3 ≤ k → spec_l20Columns.l0 k n l (d : Int) s p = some (r, p')) ∧ r.length ≤ 10 ∧ 0 ≤ p' ∧ p' ≤ p + 2 * d + 2 := by
  intro d
  induction d with
  | zero =>
    intro l p hp hp2 _ hz
    obtain ⟨b, p1, hb, h0, h1, _⟩ := odd_ok hs p n hp (by omega) (by omega)
    cases b with
    | false =>
      refine ⟨l, p1, fun k hk => ?_, by omega, by omega, by omega⟩
      obtain ⟨k, rfl⟩ : ∃ m, k = m + 1 := ⟨k - 1, by omega⟩
      rw [spec_l20Columns.l0, if_neg (by decide), hb k (by omega), Option.bind_some]
      rfl
    | true =>
      obtain ⟨c, hc, _⟩ := pick_ok hs p1 6 h0 (by omega) (by decide)
      refine ⟨l ++ [⟨wrap64 (c - 1), false⟩, ⟨1, false⟩, ⟨1, false⟩], p1 + 1, fun k hk => ?_, by rw [List.length_append]; simp; omega, by omega, by omega⟩
      obtain ⟨k, rfl⟩ : ∃ m, k = m + 1 := ⟨k - 1, by omega⟩
      rw [spec_l20Columns.l0, if_neg (by decide), hb k (by omega), Option.bind_some, if_pos rfl, hc k (by omega), Option.bind_some, Option.bind_some, if_pos (by simp only [List.length_cons, List.length_nil]; omega)]
  | succ d ih =>
    intro l p hp hp2 hd hz
    obtain ⟨c, hc, c0, c1, _⟩ := pick_ok hs p 4 hp (by omega) (by decide)
    have c1 := c1 (by decide)
    obtain ⟨c2, hc2, _⟩ := pick_ok hs (p + 1) 3 (by omega) (by omega) (by decide)
    obtain ⟨r, p', hr, h2, h3, h4⟩ := ih (l ++ [⟨rd [1, 1, 2, 3] c, decide (c2 > 0)⟩]) (p + 1 + 1) (by omega) (by omega) (by omega) (by rw [List.length_append]; simp; omega)
    refine ⟨r, p', fun k hk => ?_, h2, h3, by omega⟩
    obtain ⟨k, rfl⟩ : ∃ m, k = m + 1 := ⟨k - 1, by omega⟩
    rw [spec_l20Columns.l0, if_pos (by omega), Option.bind_some, hc k (by omega), Option.bind_some, if_pos c0, if_pos (show c < (([1, 1, 2, 3] : List Int).length : Int) from c1), hc2 k (by omega), Option.bind_some, if_pos (by omega), show wrap64 (((d + 1 : Nat) : Int) - 1) = (d : Int) by rw [w64g (by omega)]; omega]
    exact hr k (by omega)
theorem draw_cols {s : List Int} (hb : Bytes s) (p n : Int) (hp : 0 ≤ p) (hp2 : p ≤ 80000) (hn : n ≤ 1000) : ∃ r p', (∀ k, 20 ≤ k → spec_l20Columns.f k s p n = some (r, p')) ∧ r.length ≤ 10 ∧ 0 ≤ p' ∧ p' ≤ p + 20 := by
  obtain ⟨c, hc, c0, c1, _⟩ := pick_ok hb p 3 hp (by omega) (by decide)
  have c1 := c1 (by decide)
  obtain ⟨e, rfl⟩ := Int.eq_ofNat_of_zero_le c0
  obtain ⟨r, p', hr, h2, h3, h4⟩ := draw_cols_loop hb n hn (e + 1) [] (p + 1) (by omega) (by omega) (by omega) (by simp; omega)
  refine ⟨r, p', fun k hk => ?_, h2, h3, by omega⟩
  unfold spec_l20Columns.f
  rw [hc k (by omega), Option.bind_some, show wrap64 (1 + (e : Int)) = ((e + 1 : Nat) : Int) by rw [w64g (by omega)]; omega]
  exact hr k (by omega)

end Go.Proofs.Ytkgnfbockgcdpaa.Pure
set_option linter.unusedVariables false
set_option linter.unusedSimpArgs false
namespace Go.Proofs.Ytkgnfbockgcdpaa.Pure
open Go.RowKit Go.Proofs.Ytkgnfbockgcdpaa.X Go.Proofs.YtkgnfbockgcdpaaV.PrintWords Go.Proofs.YtkgnfbockgcdpaaV.PrintLast Go.Proofs.YtkgnfbockgcdpaaV.PrintMore

theorem alive_eq : laws_alive.f = some true := by decide +kernel

end Go.Proofs.Ytkgnfbockgcdpaa.Pure
set_option linter.unusedVariables false
set_option linter.unusedSimpArgs false
namespace Go.Proofs.Ytkgnfbockgcdpaa.Pure
open Go.RowKit Go.Proofs.Ytkgnfbockgcdpaa.X Go.Proofs.YtkgnfbockgcdpaaV.PrintWords Go.Proofs.YtkgnfbockgcdpaaV.PrintLast Go.Proofs.YtkgnfbockgcdpaaV.PrintMore

theorem FnLeftColumns : laws_FnLeftColumns.Pure := by
  intro l hl
  obtain ⟨s, hs, hby⟩ := open_ok hl.2
  obtain ⟨c, p', hc, hz, hp0, hp1⟩ := draw_cols hby 0 9 (by decide) (by decide) (by decide)
  obtain ⟨d, p2, hd, hz2, _⟩ := draw_cols hby p' 9 hp0 (by omega) (by decide)
  obtain ⟨r, hr, hrz, hok, hwide⟩ := left_both c d (by omega) (by omega)
  obtain ⟨K, hK⟩ : ∃ K : Nat, 1000 ≤ K := ⟨1000, Nat.le_refl _⟩
  refine ⟨K, ?_⟩
  unfold laws_FnLeftColumns.f
  by_cases h : (l.length : Int) > 1048576
  · rw [if_pos h]
  rw [if_neg h, spec_DrawLeftColumns.f, hs, Option.bind_some]
  show ((((spec_l20Columns.f K s 0 9).bind _).bind _) : Option Bool) = _
  rw [hc _ (by omega), Option.bind_some]
  show ((((spec_l20Columns.f K s p' 9).bind _).bind _) : Option Bool) = _
  rw [hd _ (by omega), Option.bind_some, Option.bind_some]
  show (((impl_LeftColumns.f K c d).bind _) : Option Bool) = _
  rw [(hr K (by omega)).1, Option.bind_some]
  show (((spec_LeftColumns.f K c d).bind _) : Option Bool) = _
  rw [(hr K (by omega)).2, Option.bind_some, if_pos rfl]
  refine go_all (fun k j => laws_FnLeftColumns.l0 k c r r j) r.length 10 1 true ?_ ?_ K (by omega)
  · intro k j _ hj
    show laws_FnLeftColumns.l0 (k + 1) c r r j = _
    rw [laws_FnLeftColumns.l0, if_pos (by omega), if_pos (by omega), if_pos (by omega), if_neg (by simp), show wrap64 ((j : Int) + 1) = ((j + 1 : Nat) : Int) by rw [w64g (by omega)]; omega]
    by_cases g : (j : Int) ≥ (c.length : Int)
    · rw [if_pos g, rdC_nat, if_pos (hwide j (by omega) hj)]
    · rw [if_neg g]
  · intro k _
    show laws_FnLeftColumns.l0 (k + 1) c r r r.length = _
    obtain ⟨n, hn, hn'⟩ := impl_cols r
    rw [laws_FnLeftColumns.l0, if_neg (by omega), hn, Option.bind_some, if_pos (hn'.2 ⟨hok, hrz⟩), alive_eq]
    rfl

end Go.Proofs.Ytkgnfbockgcdpaa.Pure
