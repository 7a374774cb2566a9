/- The laws' copies of columns; lemmas. -/
import Derived.Test.YtkgnfbockgcdpaaX7
import Derived.Test.YtkgnfbockgcdpaaX8
import Derived.Test.YtkgnfbockgcdpaaLCols
import Derived.Test.YtkgnfbockgcdpaaVMore
set_option linter.unusedVariables false
set_option linter.unusedSimpArgs false
namespace Go.Proofs.Ytkgnfbockgcdpaa.Pure
open Go.RowKit Go.Proofs.Ytkgnfbockgcdpaa.X Go.Proofs.YtkgnfbockgcdpaaV.PrintWords Go.Proofs.YtkgnfbockgcdpaaV.PrintLast Go.Proofs.YtkgnfbockgcdpaaV.PrintMore

def mkC (x : S70) : S48 := ⟨x.f0, x.f1⟩
theorem toColumnS_eq (l : List S70) (hl : l.length ≤ 1000000000) : ∀ k, l.length + 1 ≤ k → laws_toColumnS.f k l = some (l.map mkC) := by
  intro k hk
  unfold laws_toColumnS.f
  rw [if_pos (by omega), if_pos (by omega)]
  refine copy_all (fun k x i => laws_toColumnS.l0 k l x i) (l.map mkC) (List.replicate ((l.length : Int) : Int).toNat z48) (by rw [List.length_replicate, List.length_map]; omega) (mkC z70) ?_ ?_ k (by simp only [List.length_map]; omega)
  · intro k x j hj hx
    rw [List.length_map] at hj hx
    show laws_toColumnS.l0 (k + 1) l x j = _
    rw [laws_toColumnS.l0, if_pos (by omega), if_pos (by omega), laws_toColumn.f, Option.bind_some, if_pos (by omega), show wrap64 ((j : Int) + 1) = ((j + 1 : Nat) : Int) by rw [w64g (by omega)]; omega, Int.toNat_natCast]
    have : (l.map mkC).getD j (mkC z70) = (⟨(rd_T70 l j).f0, (rd_T70 l j).f1⟩ : S48) := by
      show _ = mkC (l.getD j z70)
      simp only [List.getD_eq_getElem?_getD, List.getElem?_map]
      cases l[j]? <;> rfl
    rw [this]
  · intro k x hx
    rw [List.length_map] at hx
    show laws_toColumnS.l0 (k + 1) l x (l.map _).length = _
    rw [laws_toColumnS.l0, List.length_map, if_neg (by omega)]
theorem szC {α : Type} (l : List α) (hl : l.length ≤ maxLen) (left : Int) (h0 : 0 ≤ left) (h1 : left ≤ 1048576) (h : ¬ wrap64 (left - (l.length : Int)) < 0) :
    l.length ≤ 1048576 ∧ wrap64 (left - (l.length : Int)) = left - l.length := by
  have h2 : l.length ≤ 9223372036854775807 := Nat.le_trans hl (by decide)
  rw [w64g (by omega)] at h
  exact ⟨by omega, w64g (by omega)⟩

end Go.Proofs.Ytkgnfbockgcdpaa.Pure
