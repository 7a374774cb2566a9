/- The program's PairsOk returns what the reference's returns, for all arguments; no condition. -/
import Derived.Test.YtkgnfbockgcdpaaX38
import Derived.Test.YtkgnfbockgcdpaaX44
import Derived.Test.YtkgnfbockgcdpaaLPairRise
set_option linter.unusedVariables false
set_option linter.unusedSimpArgs false
namespace Go.Proofs.Ytkgnfbockgcdpaa.Pure
open Go.RowKit Go.Proofs.Ytkgnfbockgcdpaa.X Go.Proofs.YtkgnfbockgcdpaaV.PrintWords Go.Proofs.YtkgnfbockgcdpaaV.PrintLast Go.Proofs.YtkgnfbockgcdpaaV.PrintMore

theorem toPairS_eq (l : List S90) (hl : l.length ≤ 1000000000) : ∀ k, l.length + 1 ≤ k → laws_toPairS.f k l = some (l.map fun x => (⟨x.f0, x.f1⟩ : S87)) := by
  intro k hk
  unfold laws_toPairS.f
  rw [if_pos (by omega), if_pos (by omega)]
  refine copy_all (fun k x i => laws_toPairS.l0 k l x i) (l.map fun x => (⟨x.f0, x.f1⟩ : S87)) (List.replicate ((l.length : Int) : Int).toNat z87) (by rw [List.length_replicate, List.length_map]; omega) (⟨z90.f0, z90.f1⟩ : S87) ?_ ?_ k (by simp only [List.length_map]; omega)
  · intro k x j hj hx
    rw [List.length_map] at hj hx
    show laws_toPairS.l0 (k + 1) l x j = _
    rw [laws_toPairS.l0, if_pos (by omega), if_pos (by omega), laws_toPair.f, Option.bind_some, if_pos (by omega), show wrap64 ((j : Int) + 1) = ((j + 1 : Nat) : Int) by rw [w64g (by omega)]; omega, Int.toNat_natCast]
    have : (l.map fun x => (⟨x.f0, x.f1⟩ : S87)).getD j ⟨z90.f0, z90.f1⟩ = (⟨(rd_T90 l j).f0, (rd_T90 l j).f1⟩ : S87) := by
      show _ = (⟨(l.getD j z90).f0, (l.getD j z90).f1⟩ : S87)
      simp only [List.getD_eq_getElem?_getD, List.getElem?_map]
      cases l[j]? <;> rfl
    rw [this]
  · intro k x hx
    rw [List.length_map] at hx
    show laws_toPairS.l0 (k + 1) l x (l.map _).length = _
    rw [laws_toPairS.l0, List.length_map, if_neg (by omega)]
theorem FnExactPairsOk : laws_FnExactPairsOk.Pure := by
  intro l hl
  refine ⟨l.length + 4, ?_⟩
  unfold laws_FnExactPairsOk.f laws_szPairS.f
  by_cases h : wrap64 (1048576 - (l.length : Int)) < 0
  · rw [if_pos h, Option.bind_some, if_pos (by decide)]
  · have hm : l.length ≤ 1048576 := by
      have h2 : l.length ≤ 9223372036854775807 := Nat.le_trans hl.1 (by decide)
      rw [w64g (by omega)] at h
      omega
    rw [if_neg h, Option.bind_some, if_neg h, toPairS_eq l (by omega) _ (by omega), Option.bind_some]
    obtain ⟨b, hb, hb'⟩ := spec_pairs (l.map fun x => (⟨x.f0, x.f1⟩ : S87)) (by rw [List.length_map]; omega)
    obtain ⟨c, hc, hc'⟩ := impl_pairs (l.map fun x => (⟨x.f0, x.f1⟩ : S87)) (by rw [List.length_map]; omega)
    have e : c = b := by
      rw [Bool.eq_iff_iff, hb', hc']
    rw [List.length_map] at hb hc
    rw [hb _ (by omega), Option.bind_some, Option.bind_some, hc _ (by omega), Option.bind_some, e, if_neg (by simp), Option.bind_some, eqPairS_eq _ (by rw [List.length_map]; omega) _ (by rw [List.length_map]; omega), Option.bind_some, if_pos rfl]

end Go.Proofs.Ytkgnfbockgcdpaa.Pure
