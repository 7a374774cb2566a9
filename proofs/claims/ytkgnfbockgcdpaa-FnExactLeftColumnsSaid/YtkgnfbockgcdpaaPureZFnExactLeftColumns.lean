/- The program's LeftColumns returns what the reference's returns, for all arguments; no condition. -/
import Derived.Test.YtkgnfbockgcdpaaVMore
import Derived.Test.YtkgnfbockgcdpaaX0
import Derived.Test.YtkgnfbockgcdpaaZFnExactLeftColumns2
set_option linter.unusedVariables false
set_option linter.unusedSimpArgs false
namespace Go.Proofs.Ytkgnfbockgcdpaa.Pure
open Go.RowKit Go.Proofs.YtkgnfbockgcdpaaV.PrintWords Go.Proofs.YtkgnfbockgcdpaaV.PrintLast Go.Proofs.YtkgnfbockgcdpaaV.PrintMore

theorem w64g {n : Int} (h : -9223372036854775808 ≤ n ∧ n ≤ 9223372036854775807) : wrap64 n = n := by unfold wrap64; omega
theorem scan_all (F : Nat → Int → Option Bool) (n K : Nat) (G : Nat → Prop) (fin : Bool)
    (h1 : ∀ k j, K ≤ k → j < n → G j → F (k + 1) (j : Int) = F k ((j + 1 : Nat) : Int))
    (h2 : ∀ k j, K ≤ k → j < n → ¬ G j → F (k + 1) (j : Int) = some false)
    (h3 : ∀ k, K ≤ k → F (k + 1) (n : Int) = some fin) :
    ∃ b, (∀ k, n + 1 + K ≤ k → F k 0 = some b) ∧ (b = true ↔ ((∀ j, j < n → G j) ∧ fin = true)) := by
  have main : ∀ d i, i + d = n → ∃ b, (∀ k, d + 1 + K ≤ k → F k (i : Int) = some b) ∧ (b = true ↔ ((∀ j, i ≤ j → j < n → G j) ∧ fin = true)) := by
    intro d
    induction d with
    | zero =>
      intro i hi
      have hi : i = n := by omega
      subst hi
      refine ⟨fin, fun k hk => ?_, ⟨fun h => ⟨fun j h1 h2 => by omega, h⟩, fun h => h.2⟩⟩
      obtain ⟨k, rfl⟩ : ∃ m, k = m + 1 := ⟨k - 1, by omega⟩
      exact h3 k (by omega)
    | succ d ih =>
      intro i hi
      by_cases g : G i
      · obtain ⟨b, hb, hb'⟩ := ih (i + 1) (by omega)
        refine ⟨b, fun k hk => ?_, ?_⟩
        · obtain ⟨k, rfl⟩ : ∃ m, k = m + 1 := ⟨k - 1, by omega⟩
          rw [h1 k i (by omega) (by omega) g]
          exact hb k (by omega)
        · rw [hb']
          constructor
          · intro h
            refine ⟨fun j hj hj' => ?_, h.2⟩
            by_cases e : j = i
            · rw [e]; exact g
            · exact h.1 j (by omega) hj'
          · intro h
            exact ⟨fun j hj hj' => h.1 j (by omega) hj', h.2⟩
      · refine ⟨false, fun k hk => ?_, ?_⟩
        · obtain ⟨k, rfl⟩ : ∃ m, k = m + 1 := ⟨k - 1, by omega⟩
          exact h2 k i (by omega) (by omega) g
        · constructor
          · intro h
            cases h
          · intro h
            exact absurd (h.1 i (Nat.le_refl _) (by omega)) g
  obtain ⟨b, hb, hb'⟩ := main n 0 (by omega)
  refine ⟨b, hb, ?_⟩
  rw [hb']
  constructor
  · intro h; exact ⟨fun j hj => h.1 j (by omega) hj, h.2⟩
  · intro h; exact ⟨fun j _ hj => h.1 j hj, h.2⟩
theorem go_all {α : Type} (F : Nat → Int → Option α) (n K c : Nat) (r : α)
    (h1 : ∀ k j, K ≤ k → j < n → F (k + c) (j : Int) = F k ((j + 1 : Nat) : Int))
    (h3 : ∀ k, K ≤ k → F (k + c) (n : Int) = some r) : ∀ k, K + c * (n + 1) ≤ k → F k 0 = some r := by
  have main : ∀ d i, i + d = n → ∀ k, K + c * (d + 1) ≤ k → F k (i : Int) = some r := by
    intro d
    induction d with
    | zero =>
      intro i hi k hk
      have hi : i = n := by omega
      subst hi
      obtain ⟨k, rfl⟩ : ∃ m, k = m + c := ⟨k - c, by omega⟩
      exact h3 k (by omega)
    | succ d ih =>
      intro i hi k hk
      have e : c * (d + 1 + 1) = c * (d + 1) + c := Nat.mul_succ _ _
      obtain ⟨k, rfl⟩ : ∃ m, k = m + c := ⟨k - c, by omega⟩
      rw [h1 k i (by omega) (by omega)]
      exact ih (i + 1) (by omega) k (by omega)
  exact main n 0 (by omega)
theorem copy_all {β : Type} (F : Nat → List β → Int → Option (List β)) (L : List β) (x0 : List β) (hx : x0.length = L.length) (d : β)
    (h1 : ∀ k (x : List β) j, j < L.length → x.length = L.length → F (k + 1) x (j : Int) = F k (x.set j (L.getD j d)) ((j + 1 : Nat) : Int))
    (h3 : ∀ k x, x.length = L.length → F (k + 1) x (L.length : Int) = some x) : ∀ k, L.length + 1 ≤ k → F k x0 0 = some L := by
  have main : ∀ e i, i + e = L.length → ∀ k, e + 1 ≤ k → F k (L.take i ++ x0.drop i) (i : Int) = some L := by
    intro e
    induction e with
    | zero =>
      intro i hi k hk
      have hi : i = L.length := by omega
      subst hi
      obtain ⟨k, rfl⟩ : ∃ m, k = m + 1 := ⟨k - 1, by omega⟩
      rw [h3 k _ (by simp [hx]), List.take_length, List.drop_of_length_le (by omega), List.append_nil]
    | succ e ih =>
      intro i hi k hk
      obtain ⟨k, rfl⟩ : ∃ m, k = m + 1 := ⟨k - 1, by omega⟩
      have hlen : (L.take i ++ x0.drop i).length = L.length := by
        rw [List.length_append, List.length_take, List.length_drop]
        omega
      rw [h1 k _ i (by omega) hlen]
      have hi' : i < L.length := by omega
      have hi2 : i < x0.length := by omega
      have e2 : (L.take i ++ x0.drop i).set i (L.getD i d) = L.take (i + 1) ++ x0.drop (i + 1) := by
        rw [List.set_append_right _ _ (by rw [List.length_take]; omega), List.length_take, show i - min i L.length = 0 by omega, List.drop_eq_getElem_cons hi2, List.set_cons_zero]
        rw [List.take_succ_eq_append_getElem hi', List.append_assoc]
        congr 1
        rw [List.getD_eq_getElem?_getD, List.getElem?_eq_getElem hi']
        rfl
      rw [e2]
      exact ih (i + 1) (by omega) k (by omega)
  intro k hk
  have := main L.length 0 (by omega) k hk
  simpa using this
theorem chain_iff {α : Type} (d : α) (Q : α → Prop) (R : α → α → Prop) (tr : ∀ a b c, R a b → R b c → R a c) (l : List α) :
    (∀ j, j < l.length → Q (l.getD j d) ∧ (0 < j → R (l.getD (j - 1) d) (l.getD j d))) ↔ ((∀ x ∈ l, Q x) ∧ l.Pairwise R) := by
  have gd : ∀ j (h : j < l.length), l.getD j d = l[j] := by
    intro j h
    rw [List.getD_eq_getElem?_getD, List.getElem?_eq_getElem h]
    rfl
  constructor
  · intro h
    refine ⟨fun x hx => ?_, ?_⟩
    · obtain ⟨j, hj, rfl⟩ := List.getElem_of_mem hx
      rw [← gd j hj]
      exact (h j hj).1
    · rw [List.pairwise_iff_getElem]
      have main : ∀ e i (hi : i < l.length) (hj : i + e + 1 < l.length), R l[i] l[i + e + 1] := by
        intro e
        induction e with
        | zero =>
          intro i hi hj
          have := (h (i + 0 + 1) hj).2 (by omega)
          rw [gd _ (show i + 0 + 1 - 1 < l.length by omega), gd _ hj] at this
          exact this
        | succ e ih =>
          intro i hi hj
          have h1 := ih i hi (by omega)
          have := (h (i + (e + 1) + 1) hj).2 (by omega)
          rw [gd _ (show i + (e + 1) + 1 - 1 < l.length by omega), gd _ hj] at this
          exact tr _ _ _ h1 this
      intro i j hi hj hij
      obtain ⟨e, rfl⟩ : ∃ e, j = i + e + 1 := ⟨j - i - 1, by omega⟩
      exact main e i hi hj
  · intro h j hj
    refine ⟨?_, fun h0 => ?_⟩
    · rw [gd j hj]
      exact h.1 _ (List.getElem_mem hj)
    · rw [gd j hj, gd (j - 1) (by omega)]
      exact List.pairwise_iff_getElem.1 h.2 (j - 1) j (by omega) hj (by omega)
/-- What holds of a chain holds of the chain without one of its elements. -/
theorem chain_less {α : Type} {Q : α → Prop} {R : α → α → Prop} {l : List α} (h : (∀ x ∈ l, Q x) ∧ l.Pairwise R) (a b : Nat) (hab : a ≤ b) :
    (∀ x ∈ l.take a ++ l.drop b, Q x) ∧ (l.take a ++ l.drop b).Pairwise R := by
  have sub : (l.take a ++ l.drop b).Sublist l := by
    have h1 : (l.take a ++ l.drop b).Sublist (l.take a ++ l.drop a) := by
      apply List.Sublist.append (List.Sublist.refl _)
      rw [show b = a + (b - a) by omega, ← List.drop_drop]
      exact List.drop_sublist _ _
    rwa [List.take_append_drop] at h1
  exact ⟨fun x hx => h.1 x (sub.subset hx), h.2.sublist sub⟩
theorem go_all2 {α : Type} (F : Nat → Int → Option α) (n K : Nat) (r : α)
    (h1 : ∀ k j, K ≤ k → j < n → F (k + 1 + 1) (j : Int) = F k ((j + 1 : Nat) : Int))
    (h3 : ∀ k, K ≤ k → F (k + 1 + 1) (n : Int) = some r) : ∀ k, K + 2 * (n + 1) ≤ k → F k 0 = some r :=
  go_all F n K 2 r h1 h3
theorem any_ok {α : Type} (F : Nat → Int → Option α) (n K : Nat)
    (h1 : ∀ j, j < n → (∃ r, ∀ k, K ≤ k → F (k + 1) (j : Int) = some r) ∨ (∀ k, K ≤ k → F (k + 1) (j : Int) = F k ((j + 1 : Nat) : Int)))
    (h3 : ∃ r, ∀ k, K ≤ k → F (k + 1) (n : Int) = some r) : ∃ r, ∀ k, n + 1 + K ≤ k → F k 0 = some r := by
  have main : ∀ d i, i + d = n → ∃ r, ∀ k, d + 1 + K ≤ k → F k (i : Int) = some r := by
    intro d
    induction d with
    | zero =>
      intro i hi
      have hi : i = n := by omega
      subst hi
      obtain ⟨r, hr⟩ := h3
      refine ⟨r, fun k hk => ?_⟩
      obtain ⟨k, rfl⟩ : ∃ m, k = m + 1 := ⟨k - 1, by omega⟩
      exact hr k (by omega)
    | succ d ih =>
      intro i hi
      rcases h1 i (by omega) with ⟨r, hr⟩ | h
      · refine ⟨r, fun k hk => ?_⟩
        obtain ⟨k, rfl⟩ : ∃ m, k = m + 1 := ⟨k - 1, by omega⟩
        exact hr k (by omega)
      · obtain ⟨r, hr⟩ := ih (i + 1) (by omega)
        refine ⟨r, fun k hk => ?_⟩
        obtain ⟨k, rfl⟩ : ∃ m, k = m + 1 := ⟨k - 1, by omega⟩
        rw [h k (by omega)]
        exact hr k (by omega)
  exact main n 0 (by omega)

end Go.Proofs.Ytkgnfbockgcdpaa.Pure
set_option linter.unusedVariables false
set_option linter.unusedSimpArgs false
namespace Go.Proofs.Ytkgnfbockgcdpaa.Pure
open Go.RowKit Go.Proofs.Ytkgnfbockgcdpaa.X Go.Proofs.YtkgnfbockgcdpaaV.PrintWords Go.Proofs.YtkgnfbockgcdpaaV.PrintLast Go.Proofs.YtkgnfbockgcdpaaV.PrintMore

theorem between_eq (a lo hi : Int) : impl_between.f a lo hi = some (decide (lo ≤ a ∧ a ≤ hi)) := by
  unfold impl_between.f
  by_cases h : a ≥ lo
  · rw [if_pos h]
    by_cases g : a ≤ hi
    · rw [decide_eq_true g, decide_eq_true ⟨h, g⟩]
    · rw [decide_eq_false g, decide_eq_false (fun h' => g h'.2)]
  · rw [if_neg h, decide_eq_false (fun h' => h h'.1)]

end Go.Proofs.Ytkgnfbockgcdpaa.Pure
set_option linter.unusedVariables false
set_option linter.unusedSimpArgs false
namespace Go.Proofs.Ytkgnfbockgcdpaa.Pure
open Go.RowKit Go.Proofs.Ytkgnfbockgcdpaa.X Go.Proofs.YtkgnfbockgcdpaaV.PrintWords Go.Proofs.YtkgnfbockgcdpaaV.PrintLast Go.Proofs.YtkgnfbockgcdpaaV.PrintMore

theorem l1In_eq (a lo hi : Int) : spec_l1In.f a lo hi = some (decide (lo ≤ a ∧ a ≤ hi)) := by
  unfold spec_l1In.f
  by_cases h : a ≥ lo
  · rw [if_pos h]
    by_cases g : a ≤ hi
    · rw [decide_eq_true g, decide_eq_true ⟨h, g⟩]
    · rw [decide_eq_false g, decide_eq_false (fun h' => g h'.2)]
  · rw [if_neg h, decide_eq_false (fun h' => h h'.1)]

end Go.Proofs.Ytkgnfbockgcdpaa.Pure
set_option linter.unusedVariables false
set_option linter.unusedSimpArgs false
namespace Go.Proofs.Ytkgnfbockgcdpaa.Pure
open Go.RowKit Go.Proofs.Ytkgnfbockgcdpaa.X Go.Proofs.YtkgnfbockgcdpaaV.PrintWords Go.Proofs.YtkgnfbockgcdpaaV.PrintLast Go.Proofs.YtkgnfbockgcdpaaV.PrintMore

abbrev OkC (x : S48) : Prop := 1 ≤ x.f0 ∧ x.f0 ≤ 3
theorem rdC_nat (l : List S48) (j : Nat) : rd_T48 l (j : Int) = l.getD j z48 := rfl
theorem getD_mem {α : Type} (l : List α) (d : α) (j : Nat) (hj : j < l.length) : l.getD j d ∈ l := by
  rw [List.getD_eq_getElem?_getD, List.getElem?_eq_getElem hj]
  exact List.getElem_mem hj
theorem all_getD {α : Type} (l : List α) (d : α) (P : α → Prop) : (∀ j, j < l.length → P (l.getD j d)) ↔ ∀ x ∈ l, P x := by
  constructor
  · intro h x hx
    obtain ⟨j, hj, rfl⟩ := List.getElem_of_mem hx
    have := h j hj
    rw [List.getD_eq_getElem?_getD, List.getElem?_eq_getElem hj] at this
    exact this
  · intro h j hj
    exact h _ (getD_mem l d j hj)
theorem spec_cols (l : List S48) (hl : l.length ≤ 1000000000) : ∃ b, (∀ k, l.length + 1 ≤ k → spec_ColumnsOk.f k l = some b) ∧ (b = true ↔ ((∀ x ∈ l, OkC x) ∧ l.length ≤ 4)) := by
  obtain ⟨b, hb, hb'⟩ := scan_all (fun k i => spec_ColumnsOk.l0 k l i) l.length 0 (fun j => OkC (l.getD j z48)) (decide ((l.length : Int) ≤ 4))
    (by
      intro k j _ hj g
      show spec_ColumnsOk.l0 (k + 1) l j = _
      rw [spec_ColumnsOk.l0, if_pos (by omega), if_pos (by omega), rdC_nat, l1In_eq, Option.bind_some, if_pos (decide_eq_true g), show wrap64 ((j : Int) + 1) = ((j + 1 : Nat) : Int) by rw [w64g (by omega)]; omega])
    (by
      intro k j _ hj g
      show spec_ColumnsOk.l0 (k + 1) l j = _
      rw [spec_ColumnsOk.l0, if_pos (by omega), if_pos (by omega), rdC_nat, l1In_eq, Option.bind_some, if_neg (fun h => g (of_decide_eq_true h))])
    (by
      intro k _
      show spec_ColumnsOk.l0 (k + 1) l l.length = _
      rw [spec_ColumnsOk.l0, if_neg (by omega)])
  refine ⟨b, fun k hk => hb k (by omega), ?_⟩
  rw [hb', decide_eq_true_iff, all_getD l z48 OkC]
  exact ⟨fun h => ⟨h.1, by omega⟩, fun h => ⟨h.1, by omega⟩⟩
theorem impl_cols (l : List S48) : ∃ b, impl_ColumnsOk.f l = some b ∧ (b = true ↔ ((∀ x ∈ l, OkC x) ∧ l.length ≤ 4)) := by
  refine ⟨_, rfl, ?_⟩
  rw [Bool.and_eq_true, decide_eq_true_iff, List.all_eq_true]
  constructor
  · intro h
    exact ⟨fun x hx => of_decide_eq_true (h.2 x hx), h.1⟩
  · intro h
    exact ⟨h.2, fun x hx => decide_eq_true (h.1 x hx)⟩
theorem eqColumnS_eq (l : List S48) (hl : l.length ≤ 1000000000) : ∀ k, l.length + 1 ≤ k → laws_eqColumnS.f k l l = some true := by
  intro k hk
  unfold laws_eqColumnS.f
  rw [if_pos rfl]
  refine go_all (fun k i => laws_eqColumnS.l0 k l l i) l.length 0 1 true ?_ ?_ k (by omega)
  · intro k j _ hj
    show laws_eqColumnS.l0 (k + 1) l l j = _
    rw [laws_eqColumnS.l0, if_pos (by omega), if_pos (by omega), if_pos (by omega), laws_eqColumn.f, if_pos rfl, if_neg (by simp), Option.bind_some, if_pos rfl, show wrap64 ((j : Int) + 1) = ((j + 1 : Nat) : Int) by rw [w64g (by omega)]; omega]
  · intro k _
    show laws_eqColumnS.l0 (k + 1) l l l.length = _
    rw [laws_eqColumnS.l0, if_neg (by omega)]

end Go.Proofs.Ytkgnfbockgcdpaa.Pure
set_option linter.unusedVariables false
set_option linter.unusedSimpArgs false
namespace Go.Proofs.Ytkgnfbockgcdpaa.Pure
open Go.RowKit Go.Proofs.Ytkgnfbockgcdpaa.X Go.Proofs.YtkgnfbockgcdpaaV.PrintWords Go.Proofs.YtkgnfbockgcdpaaV.PrintLast Go.Proofs.YtkgnfbockgcdpaaV.PrintMore

def wideC (x : S48) : S48 := ⟨x.f0, true⟩
def LOk (c d : List S48) : Prop := ((∀ x ∈ c, OkC x) ∧ c.length ≤ 4) ∧ ((∀ x ∈ d, OkC x) ∧ d.length ≤ 4) ∧ c.length + d.length ≤ 4
theorem impl_left_loop (d : List S48) (hd : d.length ≤ 1000) : ∀ (e i : Nat) (x : List S48), i + e = d.length → x.length + e ≤ 1000 →
    ∀ k, e + 1 ≤ k → impl_LeftColumns.l0 k x d (d.length : Int) (i : Int) = some (x ++ (d.drop i).map wideC) := by
  intro e
  induction e with
  | zero =>
    intro i x hi hx k hk
    obtain ⟨k, rfl⟩ : ∃ m, k = m + 1 := ⟨k - 1, by omega⟩
    rw [impl_LeftColumns.l0, if_neg (by omega), impl_Column_66.f, if_pos (by omega), Option.bind_some, List.drop_of_length_le (by omega), List.map_nil, List.append_nil]
  | succ e ih =>
    intro i x hi hx k hk
    obtain ⟨k, rfl⟩ : ∃ m, k = m + 1 := ⟨k - 1, by omega⟩
    have hi' : i < d.length := by omega
    rw [impl_LeftColumns.l0, if_pos (by omega), if_pos (by omega), if_pos (by omega), if_pos (by omega), show wrap64 ((i : Int) + 1) = ((i + 1 : Nat) : Int) by rw [w64g (by omega)]; omega]
    rw [ih (i + 1) _ (by omega) (by rw [List.length_append]; simp; omega) k (by omega), List.append_assoc, List.drop_eq_getElem_cons hi', List.map_cons]
    have : (rd_T48 d (i : Int)) = d[i] := by
      rw [rdC_nat, List.getD_eq_getElem?_getD, List.getElem?_eq_getElem hi']
      rfl
    rw [this]
    rfl
theorem impl_left (c d : List S48) (k : Nat) (hk : 10 ≤ k) : (LOk c d → impl_LeftColumns.f k c d = some (c ++ d.map wideC)) ∧ (¬ LOk c d → impl_LeftColumns.f k c d = some []) := by
  obtain ⟨b1, e1, h1⟩ := impl_cols c
  obtain ⟨b2, e2, h2⟩ := impl_cols d
  obtain ⟨k, rfl⟩ : ∃ m, k = m + 1 := ⟨k - 1, by omega⟩
  have jt : impl_LeftColumns.j0 (k + 1) c d true = some [] := by rw [impl_LeftColumns.j0, if_pos rfl]
  constructor
  · intro h
    have := h.2.2
    unfold impl_LeftColumns.f
    rw [e1, Option.bind_some, if_pos (h1.2 h.1), e2, Option.bind_some, if_pos (h2.2 h.2.1), impl_LeftColumns.j0, if_neg (by rw [w64g (by omega), decide_eq_true_iff]; omega), impl_Column_66.f, if_pos (by omega), Option.bind_some]
    have := impl_left_loop d (by omega) d.length 0 c (by omega) (by omega) k (by omega)
    rw [List.drop_zero] at this
    exact this
  · intro h
    unfold impl_LeftColumns.f
    rw [e1, Option.bind_some]
    by_cases c1 : b1 = true
    · rw [if_pos c1, e2, Option.bind_some]
      by_cases c2 : b2 = true
      · have g1 := h1.1 c1
        have g2 := h2.1 c2
        have : ¬ (c.length + d.length ≤ 4) := fun g => h ⟨g1, g2, g⟩
        rw [if_pos c2, impl_LeftColumns.j0, if_pos (by rw [w64g (by omega), decide_eq_true_iff]; omega)]
      · rw [if_neg c2, jt]
    · rw [if_neg c1, jt]
theorem empty_loop (d : List S48) (hd : d.length ≤ 1000000000) : ∀ (e i : Nat), i + e = d.length → ∀ k, e + 1 ≤ k → spec_l24Empty.l0 k ((d.map wideC).take i ++ d.drop i) (i : Int) = some (d.map wideC) := by
  intro e
  induction e with
  | zero =>
    intro i hi k hk
    have hi : i = d.length := by omega
    subst hi
    obtain ⟨k, rfl⟩ : ∃ m, k = m + 1 := ⟨k - 1, by omega⟩
    have hz : ((d.map wideC).take d.length ++ d.drop d.length) = d.map wideC := by
      rw [List.drop_of_length_le (Nat.le_refl _), List.append_nil, List.take_of_length_le (by rw [List.length_map]; omega)]
    rw [hz, spec_l24Empty.l0, if_neg (by rw [List.length_map]; omega)]
  | succ e ih =>
    intro i hi k hk
    obtain ⟨k, rfl⟩ : ∃ m, k = m + 1 := ⟨k - 1, by omega⟩
    have hi' : i < d.length := by omega
    have hi2 : i < (d.map wideC).length := by rw [List.length_map]; exact hi'
    have hlen : ((d.map wideC).take i ++ d.drop i).length = d.length := by
      rw [List.length_append, List.length_take, List.length_drop, List.length_map]
      omega
    have hlt : ((d.map wideC).take i).length = i := by rw [List.length_take, List.length_map]; omega
    have hrd : rd_T48 ((d.map wideC).take i ++ d.drop i) (i : Int) = d[i] := by
      rw [rdC_nat, List.getD_eq_getElem?_getD, List.getElem?_append_right (by omega), hlt, Nat.sub_self, List.drop_eq_getElem_cons hi']
      rfl
    rw [spec_l24Empty.l0, if_pos (by omega), if_pos (by omega), hrd, Int.toNat_natCast, show wrap64 ((i : Int) + 1) = ((i + 1 : Nat) : Int) by rw [w64g (by omega)]; omega]
    rw [List.set_append_right _ _ (by omega), hlt, Nat.sub_self, List.drop_eq_getElem_cons hi', List.set_cons_zero]
    have := ih (i + 1) (by omega) k (by omega)
    rw [List.take_succ_eq_append_getElem hi2, List.append_assoc, List.getElem_map] at this
    exact this
theorem spec_left (c d : List S48) (hc : c.length ≤ 10000000) (hd : d.length ≤ 10000000) (k : Nat) (hk : c.length + d.length + 10 ≤ k) : (LOk c d → spec_LeftColumns.f k c d = some (c ++ d.map wideC)) ∧ (¬ LOk c d → spec_LeftColumns.f k c d = some []) := by
  obtain ⟨b1, e1, h1⟩ := spec_cols c (by omega)
  obtain ⟨b2, e2, h2⟩ := spec_cols d (by omega)
  have he : spec_l24Empty.f k d = some (d.map wideC) := by
    unfold spec_l24Empty.f
    rw [Option.bind_some, if_pos (by simp only [List.length_nil]; omega), List.nil_append]
    have := empty_loop d (by omega) d.length 0 (by omega) k (by omega)
    rw [List.take_zero, List.drop_zero, List.nil_append] at this
    exact this
  have hu : spec_LeftColumns.f k c d = (if b1 = true then (if b2 = true then (if ((c ++ d.map wideC).length : Int) > 4 then (some ([] : List S48)) else (some (c ++ d.map wideC))) else (some [])) else (some [])) := by
    unfold spec_LeftColumns.f
    rw [Option.bind_some, if_pos (by simp only [List.length_nil]; omega), Option.bind_some, he, Option.bind_some, if_pos (by simp only [List.length_append, List.length_nil, List.length_map]; omega), Option.bind_some, e1 _ (by omega), Option.bind_some, e2 _ (by omega), Option.bind_some, List.nil_append]
  have hlen : (c ++ d.map wideC).length = c.length + d.length := by rw [List.length_append, List.length_map]
  constructor
  · intro h
    have := h.2.2
    rw [hu, if_pos (h1.2 h.1), if_pos (h2.2 h.2.1), if_neg (by omega)]
  · intro h
    rw [hu]
    by_cases c1 : b1 = true
    · rw [if_pos c1]
      by_cases c2 : b2 = true
      · have g1 := h1.1 c1
        have g2 := h2.1 c2
        have : ¬ (c.length + d.length ≤ 4) := fun g => h ⟨g1, g2, g⟩
        rw [if_pos c2, if_pos (by omega)]
      · rw [if_neg c2]
    · rw [if_neg c1]
theorem left_both (c d : List S48) (hc : c.length ≤ 10000000) (hd : d.length ≤ 10000000) : ∃ r, (∀ k, c.length + d.length + 10 ≤ k → impl_LeftColumns.f k c d = some r ∧ spec_LeftColumns.f k c d = some r) ∧ r.length ≤ 4 ∧ (∀ x ∈ r, OkC x) ∧ (∀ j, c.length ≤ j → j < r.length → (r.getD j z48).f1 = true) := by
  by_cases h : LOk c d
  · refine ⟨c ++ d.map wideC, fun k hk => ⟨(impl_left c d k (by omega)).1 h, (spec_left c d hc hd k hk).1 h⟩, by rw [List.length_append, List.length_map]; exact h.2.2, fun x hx => ?_, fun j hj hj' => ?_⟩
    · rcases List.mem_append.1 hx with g | g
      · exact h.1.1 x g
      · obtain ⟨y, hy, rfl⟩ := List.mem_map.1 g
        exact h.2.1.1 y hy
    · rw [List.length_append, List.length_map] at hj'
      rw [List.getD_eq_getElem?_getD, List.getElem?_append_right hj, List.getElem?_map, List.getElem?_eq_getElem (by omega)]
      rfl
  · exact ⟨[], fun k hk => ⟨(impl_left c d k (by omega)).2 h, (spec_left c d hc hd k hk).2 h⟩, by simp, fun x hx => absurd hx List.not_mem_nil, fun j _ hj => absurd hj (Nat.not_lt_zero _)⟩

end Go.Proofs.Ytkgnfbockgcdpaa.Pure
set_option linter.unusedVariables false
set_option linter.unusedSimpArgs false
namespace Go.Proofs.Ytkgnfbockgcdpaa.Pure
open Go.RowKit Go.Proofs.Ytkgnfbockgcdpaa.X Go.Proofs.YtkgnfbockgcdpaaV.PrintWords Go.Proofs.YtkgnfbockgcdpaaV.PrintLast Go.Proofs.YtkgnfbockgcdpaaV.PrintMore

def markAt (v : Int) (i : Nat) : S48 := ⟨v + 2 * i, (Int.tmod (v + 2 * i + 1) 3 == 0)⟩
def marks (v : Int) (n : Nat) : List S48 := (List.range n).map (markAt v)
theorem marks_len (v : Int) (n : Nat) : (marks v n).length = n := by unfold marks; rw [List.length_map, List.length_range]
theorem marks_at (v : Int) (n j : Nat) (hj : j < n) (d : S48) : (marks v n).getD j d = markAt v j := by
  unfold marks
  rw [List.getD_eq_getElem?_getD, List.getElem?_map, List.getElem?_range hj]
  rfl
theorem mark_ok (l : List S48) (hl : l.length ≤ 10000000) (v : Int) (h0 : 0 ≤ v) (h1 : v ≤ 100000000) : ∀ k, l.length + 1 ≤ k → laws_markColumnS.f k l v = some (v + 2 * l.length, marks v l.length) := by
  have main : ∀ e i, i + e = l.length → ∀ k, e + 1 ≤ k → laws_markColumnS.l0 k ((marks v l.length).take i ++ l.drop i) (v + 2 * i) (i : Int) = some (v + 2 * l.length, marks v l.length) := by
    intro e
    induction e with
    | zero =>
      intro i hi k hk
      have hi : i = l.length := by omega
      subst hi
      obtain ⟨k, rfl⟩ : ∃ m, k = m + 1 := ⟨k - 1, by omega⟩
      have hz : ((marks v l.length).take l.length ++ l.drop l.length) = marks v l.length := by
        rw [List.drop_of_length_le (Nat.le_refl _), List.append_nil, List.take_of_length_le (by rw [marks_len]; omega)]
      rw [hz, laws_markColumnS.l0, if_neg (by rw [marks_len]; omega)]
    | succ e ih =>
      intro i hi k hk
      obtain ⟨k, rfl⟩ : ∃ m, k = m + 1 := ⟨k - 1, by omega⟩
      have hi' : i < l.length := by omega
      have hi2 : i < (marks v l.length).length := by rw [marks_len]; exact hi'
      have hlt : ((marks v l.length).take i).length = i := by rw [List.length_take, marks_len]; omega
      have hlen : ((marks v l.length).take i ++ l.drop i).length = l.length := by
        rw [List.length_append, hlt, List.length_drop]
        omega
      obtain ⟨X, hX⟩ : ∃ X, (marks v l.length).take i ++ l.drop i = X := ⟨_, rfl⟩
      have eX : ∀ y, X.set i y = (marks v l.length).take i ++ y :: l.drop (i + 1) := by
        intro y
        rw [← hX, List.set_append_right _ _ (by omega), hlt, Nat.sub_self, List.drop_eq_getElem_cons hi', List.set_cons_zero]
      have rX : ∀ y, rd_T48 (X.set i y) (i : Int) = y := by
        intro y
        show (X.set i y).getD i _ = y
        rw [eX, List.getD_eq_getElem?_getD, List.getElem?_append_right (by omega), hlt, Nat.sub_self]
        rfl
      rw [hX] at hlen ⊢
      have e1 : wrap64 (v + 2 * (i : Int) + 1) = v + 2 * i + 1 := w64g (by omega)
      rw [laws_markColumnS.l0, if_pos (by omega), if_pos (by omega), Option.bind_some, Int.toNat_natCast, rX, e1, w64g (n := v + 2 * (i : Int) + 1 + 1) (by omega), show wrap64 ((i : Int) + 1) = ((i + 1 : Nat) : Int) by rw [w64g (by omega)]; omega, List.set_set, eX]
      have := ih (i + 1) (by omega) k (by omega)
      rw [List.take_succ_eq_append_getElem hi2, List.append_assoc] at this
      have em : (marks v l.length)[i] = markAt v i := by
        have h1 := marks_at v l.length i hi' z48
        rw [List.getD_eq_getElem?_getD, List.getElem?_eq_getElem hi2] at h1
        exact h1
      rw [em] at this
      rw [show v + 2 * (i : Int) + 1 + 1 = v + 2 * ((i + 1 : Nat) : Int) by omega]
      exact this
  intro k hk
  have := main l.length 0 (by omega) k hk
  rw [List.take_zero, List.drop_zero, List.nil_append] at this
  unfold laws_markColumnS.f
  simpa using this
theorem held_ok (n : Nat) (hn : n ≤ 10000000) (v : Int) (h0 : 0 ≤ v) (h1 : v ≤ 100000000) : ∀ k, n + 1 ≤ k → laws_heldColumnS.f k (marks v n) v = some (v + 2 * n) := by
  intro k hk
  have := go_all (fun k i => laws_heldColumnS.l0 k (marks v n) (v + 2 * i) i) n 0 1 (v + 2 * n) ?_ ?_ k (by omega)
  · unfold laws_heldColumnS.f
    simpa using this
  · intro k j _ hj
    show laws_heldColumnS.l0 (k + 1) (marks v n) (v + 2 * (j : Int)) (j : Int) = _
    have hr : rd_T48 (marks v n) (j : Int) = markAt v j := marks_at v n j hj _
    have e1 : wrap64 (v + 2 * (j : Int) + 1) = v + 2 * j + 1 := w64g (by omega)
    rw [laws_heldColumnS.l0, if_pos (by rw [marks_len]; omega), if_pos (by omega), hr, if_pos (show (markAt v j).f0 = v + 2 * (j : Int) from rfl), e1, if_neg (by simp [markAt]), w64g (n := v + 2 * (j : Int) + 1 + 1) (by omega), show wrap64 ((j : Int) + 1) = ((j + 1 : Nat) : Int) by rw [w64g (by omega)]; omega, show v + 2 * (j : Int) + 1 + 1 = v + 2 * ((j + 1 : Nat) : Int) by omega]
  · intro k _
    show laws_heldColumnS.l0 (k + 1) (marks v n) (v + 2 * (n : Int)) (n : Int) = _
    rw [laws_heldColumnS.l0, if_neg (by rw [marks_len]; omega)]

end Go.Proofs.Ytkgnfbockgcdpaa.Pure
set_option linter.unusedVariables false
set_option linter.unusedSimpArgs false
namespace Go.Proofs.Ytkgnfbockgcdpaa.Pure
open Go.RowKit Go.Proofs.Ytkgnfbockgcdpaa.X Go.Proofs.YtkgnfbockgcdpaaV.PrintWords Go.Proofs.YtkgnfbockgcdpaaV.PrintLast Go.Proofs.YtkgnfbockgcdpaaV.PrintMore

def mkC (x : S70) : S48 := ⟨x.f0, x.f1⟩
theorem toColumnS_eq (l : List S70) (hl : l.length ≤ 1000000000) : ∀ k, l.length + 1 ≤ k → laws_toColumnS.f k l = some (l.map mkC) := by
  intro k hk
  unfold laws_toColumnS.f
  rw [if_pos (by omega), if_pos (by omega)]
  refine copy_all (fun k x i => laws_toColumnS.l0 k l x i) (l.map mkC) (List.replicate ((l.length : Int) : Int).toNat z48) (by rw [List.length_replicate, List.length_map]; omega) (mkC z70) ?_ ?_ k (by simp only [List.length_map]; omega)
  · intro k x j hj hx
    rw [List.length_map] at hj hx
    show laws_toColumnS.l0 (k + 1) l x j = _
    rw [laws_toColumnS.l0, if_pos (by omega), if_pos (by omega), laws_toColumn.f, Option.bind_some, if_pos (by omega), show wrap64 ((j : Int) + 1) = ((j + 1 : Nat) : Int) by rw [w64g (by omega)]; omega, Int.toNat_natCast]
    have : (l.map mkC).getD j (mkC z70) = (⟨(rd_T70 l j).f0, (rd_T70 l j).f1⟩ : S48) := by
      show _ = mkC (l.getD j z70)
      simp only [List.getD_eq_getElem?_getD, List.getElem?_map]
      cases l[j]? <;> rfl
    rw [this]
  · intro k x hx
    rw [List.length_map] at hx
    show laws_toColumnS.l0 (k + 1) l x (l.map _).length = _
    rw [laws_toColumnS.l0, List.length_map, if_neg (by omega)]
theorem szC {α : Type} (l : List α) (hl : l.length ≤ maxLen) (left : Int) (h0 : 0 ≤ left) (h1 : left ≤ 1048576) (h : ¬ wrap64 (left - (l.length : Int)) < 0) :
    l.length ≤ 1048576 ∧ wrap64 (left - (l.length : Int)) = left - l.length := by
  have h2 : l.length ≤ 9223372036854775807 := Nat.le_trans hl (by decide)
  rw [w64g (by omega)] at h
  exact ⟨by omega, w64g (by omega)⟩

end Go.Proofs.Ytkgnfbockgcdpaa.Pure
set_option linter.unusedVariables false
set_option linter.unusedSimpArgs false
namespace Go.Proofs.Ytkgnfbockgcdpaa.Pure
open Go.RowKit Go.Proofs.Ytkgnfbockgcdpaa.X Go.Proofs.YtkgnfbockgcdpaaV.PrintWords Go.Proofs.YtkgnfbockgcdpaaV.PrintLast Go.Proofs.YtkgnfbockgcdpaaV.PrintMore

theorem FnExactLeftColumns : laws_FnExactLeftColumns.Pure := by
  intro a b ha hb
  obtain ⟨K, hK⟩ : ∃ K, a.length + b.length + 1000 ≤ K := ⟨_, Nat.le_refl _⟩
  refine ⟨K, ?_⟩
  unfold laws_FnExactLeftColumns.f laws_szColumnS.f
  by_cases h : wrap64 (1048576 - (a.length : Int)) < 0
  · rw [if_pos h, Option.bind_some, if_pos (by decide)]
  obtain ⟨hm, hw⟩ := szC a ha.1 1048576 (by decide) (by decide) h
  rw [if_neg h, Option.bind_some, if_neg h, hw]
  by_cases h' : wrap64 (1048576 - (a.length : Int) - (b.length : Int)) < 0
  · rw [if_pos h', Option.bind_some, if_pos (by decide)]
  have hm2 := (szC b hb.1 (1048576 - (a.length : Int)) (by omega) (by omega) h').1
  rw [if_neg h', Option.bind_some, if_neg h']
  have ta : laws_toColumnS.f K a = some (a.map mkC) := toColumnS_eq a (by omega) _ (by omega)
  have tb : laws_toColumnS.f K b = some (b.map mkC) := toColumnS_eq b (by omega) _ (by omega)
  have la : (a.map mkC).length = a.length := List.length_map _
  have lb : (b.map mkC).length = b.length := List.length_map _
  obtain ⟨r, hr, hrz, _, _⟩ := left_both (a.map mkC) (b.map mkC) (by omega) (by omega)
  have hi := (hr K (by omega)).1
  have hs := (hr K (by omega)).2
  have er : laws_eqColumnS.f K r r = some true := eqColumnS_eq r (by omega) _ (by omega)
  rw [ta, Option.bind_some, tb, Option.bind_some, hs, Option.bind_some, Option.bind_some, Option.bind_some, hi, Option.bind_some, er, Option.bind_some, if_pos rfl, Option.bind_some, eqColumnS_eq _ (by omega) _ (by omega), Option.bind_some, if_pos rfl, Option.bind_some, eqColumnS_eq _ (by omega) _ (by omega), Option.bind_some, if_pos rfl]
  rw [mark_ok (a.map mkC) (by omega) 1 (by decide) (by decide) K (by omega), Option.bind_some, mark_ok (b.map mkC) (by omega) _ (by omega) (by omega) K (by omega), Option.bind_some, if_neg (by omega), Option.bind_some]
  obtain ⟨K, rfl⟩ : ∃ m, K = m + 1 := ⟨K - 1, by omega⟩
  have ta : laws_toColumnS.f K a = some (a.map mkC) := toColumnS_eq a (by omega) _ (by omega)
  have tb : laws_toColumnS.f K b = some (b.map mkC) := toColumnS_eq b (by omega) _ (by omega)
  have hi := (hr K (by omega)).1
  have er : laws_eqColumnS.f K r r = some true := eqColumnS_eq r (by omega) _ (by omega)
  rw [laws_FnExactLeftColumns.j0, if_neg (by decide), mark_ok r (by omega) 1 (by decide) (by decide) K (by omega), Option.bind_some]
  show ((laws_heldColumnS.f K (marks 1 r.length) 1).bind _) = _
  rw [held_ok r.length (by omega) 1 (by decide) (by decide) K (by omega), Option.bind_some, if_neg (by omega), if_pos rfl, ta, Option.bind_some, tb, Option.bind_some, hi, Option.bind_some, er, Option.bind_some, if_pos rfl, Option.bind_some, if_neg (by omega), if_pos rfl]

end Go.Proofs.Ytkgnfbockgcdpaa.Pure
