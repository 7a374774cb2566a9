/- Whether columns are columns, told by the program and by the reference; the laws' copies of columns; lemmas. -/
import Derived.Test.YtkgnfbockgcdpaaX7
import Derived.Test.YtkgnfbockgcdpaaX9
import Derived.Test.YtkgnfbockgcdpaaX10
import Derived.Test.YtkgnfbockgcdpaaLGen
import Derived.Test.YtkgnfbockgcdpaaLSmall
import Derived.Test.YtkgnfbockgcdpaaLSmallS
import Derived.Test.YtkgnfbockgcdpaaVMore
set_option linter.unusedVariables false
set_option linter.unusedSimpArgs false
namespace Go.Proofs.Ytkgnfbockgcdpaa.Pure
open Go.RowKit Go.Proofs.Ytkgnfbockgcdpaa.X Go.Proofs.YtkgnfbockgcdpaaV.PrintWords Go.Proofs.YtkgnfbockgcdpaaV.PrintLast Go.Proofs.YtkgnfbockgcdpaaV.PrintMore

abbrev OkC (x : S48) : Prop := 1 ≤ x.f0 ∧ x.f0 ≤ 3
theorem rdC_nat (l : List S48) (j : Nat) : rd_T48 l (j : Int) = l.getD j z48 := rfl
theorem getD_mem {α : Type} (l : List α) (d : α) (j : Nat) (hj : j < l.length) : l.getD j d ∈ l := by
  rw [List.getD_eq_getElem?_getD, List.getElem?_eq_getElem hj]
  exact List.getElem_mem hj
theorem all_getD {α : Type} (l : List α) (d : α) (P : α → Prop) : (∀ j, j < l.length → P (l.getD j d)) ↔ ∀ x ∈ l, P x := by
  constructor
  · intro h x hx
    obtain ⟨j, hj, rfl⟩ := List.getElem_of_mem hx
    have := h j hj
    rw [List.getD_eq_getElem?_getD, List.getElem?_eq_getElem hj] at this
    exact this
  · intro h j hj
    exact h _ (getD_mem l d j hj)
theorem spec_cols (l : List S48) (hl : l.length ≤ 1000000000) : ∃ b, (∀ k, l.length + 1 ≤ k → spec_ColumnsOk.f k l = some b) ∧ (b = true ↔ ((∀ x ∈ l, OkC x) ∧ l.length ≤ 4)) := by
  obtain ⟨b, hb, hb'⟩ := scan_all (fun k i => spec_ColumnsOk.l0 k l i) l.length 0 (fun j => OkC (l.getD j z48)) (decide ((l.length : Int) ≤ 4))
    (by
      intro k j _ hj g
      show spec_ColumnsOk.l0 (k + 1) l j = _
      rw [spec_ColumnsOk.l0, if_pos (by omega), if_pos (by omega), rdC_nat, l1In_eq, Option.bind_some, if_pos (decide_eq_true g), show wrap64 ((j : Int) + 1) = ((j + 1 : Nat) : Int) by rw [w64g (by omega)]; omega])
    (by
      intro k j _ hj g
      show spec_ColumnsOk.l0 (k + 1) l j = _
      rw [spec_ColumnsOk.l0, if_pos (by omega), if_pos (by omega), rdC_nat, l1In_eq, Option.bind_some, if_neg (fun h => g (of_decide_eq_true h))])
    (by
      intro k _
      show spec_ColumnsOk.l0 (k + 1) l l.length = _
      rw [spec_ColumnsOk.l0, if_neg (by omega)])
  refine ⟨b, fun k hk => hb k (by omega), ?_⟩
  rw [hb', decide_eq_true_iff, all_getD l z48 OkC]
  exact ⟨fun h => ⟨h.1, by omega⟩, fun h => ⟨h.1, by omega⟩⟩
theorem impl_cols (l : List S48) : ∃ b, impl_ColumnsOk.f l = some b ∧ (b = true ↔ ((∀ x ∈ l, OkC x) ∧ l.length ≤ 4)) := by
  refine ⟨_, rfl, ?_⟩
  rw [Bool.and_eq_true, decide_eq_true_iff, List.all_eq_true]
  constructor
  · intro h
    exact ⟨fun x hx => of_decide_eq_true (h.2 x hx), h.1⟩
  · intro h
    exact ⟨h.2, fun x hx => decide_eq_true (h.1 x hx)⟩
theorem eqColumnS_eq (l : List S48) (hl : l.length ≤ 1000000000) : ∀ k, l.length + 1 ≤ k → laws_eqColumnS.f k l l = some true := by
  intro k hk
  unfold laws_eqColumnS.f
  rw [if_pos rfl]
  refine go_all (fun k i => laws_eqColumnS.l0 k l l i) l.length 0 1 true ?_ ?_ k (by omega)
  · intro k j _ hj
    show laws_eqColumnS.l0 (k + 1) l l j = _
    rw [laws_eqColumnS.l0, if_pos (by omega), if_pos (by omega), if_pos (by omega), laws_eqColumn.f, if_pos rfl, if_neg (by simp), Option.bind_some, if_pos rfl, show wrap64 ((j : Int) + 1) = ((j + 1 : Nat) : Int) by rw [w64g (by omega)]; omega]
  · intro k _
    show laws_eqColumnS.l0 (k + 1) l l l.length = _
    rw [laws_eqColumnS.l0, if_neg (by omega)]

end Go.Proofs.Ytkgnfbockgcdpaa.Pure
