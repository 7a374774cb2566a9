/- The order of values: by kinds, then by numbers, then by texts; what the program's order tells; lemmas. -/
import Derived.Test.YtokphjnpkaipcaaX8
import Derived.Test.YtokphjnpkaipcaaX9
import Derived.Test.YtokphjnpkaipcaaX10
import Derived.Test.YtokphjnpkaipcaaLVOk
import Derived.Test.YtokphjnpkaipcaaVMore
set_option linter.unusedVariables false
set_option linter.unusedSimpArgs false
namespace Go.Proofs.Ytokphjnpkaipcaa.Pure
open Go.RowKit Go.Proofs.Ytokphjnpkaipcaa.X Go.Proofs.YtokphjnpkaipcaaV.PrintWords Go.Proofs.YtokphjnpkaipcaaV.PrintLast Go.Proofs.YtokphjnpkaipcaaV.PrintMore

/-- The order of two numbers. -/
def ci (a b : Int) : Int := if a < b then -1 else if a > b then 1 else 0
/-- The order of two texts. -/
def cs (a b : ByteArray) : Int := if Op.bytesLess a.toList b.toList = true then -1 else if Op.bytesLess b.toList a.toList = true then 1 else 0
/-- The order of two values. -/
def VOrd (t n : Int) (s : ByteArray) (t2 n2 : Int) (s2 : ByteArray) : Int := if ci t t2 = 0 then (if ci n n2 = 0 then cs s s2 else ci n n2) else ci t t2
theorem ci_zero {a b : Int} : ci a b = 0 ↔ a = b := by
  unfold ci
  split
  · constructor <;> intro h <;> omega
  · split
    · constructor <;> intro h <;> omega
    · constructor <;> intro h <;> omega
theorem ci_self (a : Int) : ci a a = 0 := ci_zero.2 rfl
theorem ci_neg (a b : Int) : ci b a = - ci a b := by
  unfold ci
  split <;> split <;> (try split) <;> (try split) <;> omega
theorem ci_range (a b : Int) : ci a b = -1 ∨ ci a b = 0 ∨ ci a b = 1 := by
  unfold ci
  split
  · exact .inl rfl
  · split
    · exact .inr (.inr rfl)
    · exact .inr (.inl rfl)
theorem cs_range (a b : ByteArray) : cs a b = -1 ∨ cs a b = 0 ∨ cs a b = 1 := by
  unfold cs
  split
  · exact .inl rfl
  · split
    · exact .inr (.inr rfl)
    · exact .inr (.inl rfl)
theorem vord_range (t n : Int) (s : ByteArray) (t2 n2 : Int) (s2 : ByteArray) : VOrd t n s t2 n2 s2 = -1 ∨ VOrd t n s t2 n2 s2 = 0 ∨ VOrd t n s t2 n2 s2 = 1 := by
  unfold VOrd
  split
  · split
    · exact cs_range _ _
    · exact ci_range _ _
  · exact ci_range _ _
theorem compare_int (a b : Int) : cmp_Compare_int.f a b = some (ci a b) := by
  have h1 : ∀ x : Int, (x != x) = false := fun x => by simp
  unfold cmp_Compare_int.f cmp_isNaN_int.f
  simp only [Option.bind_some, h1, Bool.false_eq_true, if_false]
  unfold ci
  split
  · rfl
  · split <;> rfl
theorem compare_string (a b : ByteArray) : cmp_Compare_string.f a b = some (cs a b) := by
  have h1 : ∀ x : List UInt8, (x != x) = false := fun x => by simp
  unfold cmp_Compare_string.f cmp_isNaN_string.f
  simp only [Option.bind_some, h1, Bool.false_eq_true, if_false]
  unfold cs
  split
  · rfl
  · split <;> rfl
theorem or_three (x y z : Int) (k : Nat) (hk : 4 ≤ k) : cmp_Or_int.f k [x, y, z] = some (if x = 0 then (if y = 0 then z else y) else x) := by
  obtain ⟨k, rfl⟩ : ∃ m, k = m + 4 := ⟨k - 4, by omega⟩
  have e1 : wrap64 ((0 : Int) + 1) = 1 := by decide +kernel
  have e2 : wrap64 ((1 : Int) + 1) = 2 := by decide +kernel
  have e3 : wrap64 ((2 : Int) + 1) = 3 := by decide +kernel
  have r0 : rd [x, y, z] 0 = x := rfl
  have r1 : rd [x, y, z] 1 = y := rfl
  have r2 : rd [x, y, z] 2 = z := rfl
  have l3 : (([x, y, z] : List Int).length : Int) = 3 := rfl
  unfold cmp_Or_int.f
  rw [l3]
  simp only [cmp_Or_int.l0, l3, e1, e2, e3, r0, r1, r2]
  by_cases hx : x = 0
  · rw [if_pos hx]
    by_cases hy : y = 0
    · rw [if_pos hy]
      by_cases hz : z = 0 <;> simp [hx, hy, hz]
    · simp [hx, hy]
  · simp [hx]
theorem impl_order (t n : Int) (s : ByteArray) (t2 n2 : Int) (s2 : ByteArray) (k : Nat) (hk : 4 ≤ k) : impl_Value_order.f k t n s t2 n2 s2 = some (VOrd t n s t2 n2 s2) := by
  unfold impl_Value_order.f
  rw [compare_int, compare_int, compare_string]
  simp only [Option.bind_some]
  rw [or_three _ _ _ k hk]
  rfl

end Go.Proofs.Ytokphjnpkaipcaa.Pure
