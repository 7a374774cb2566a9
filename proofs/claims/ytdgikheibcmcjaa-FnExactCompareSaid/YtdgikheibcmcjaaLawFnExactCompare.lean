/- Plain functions for the Go functions of this seat, and proofs that each call answers as its plain function does; made by this session's program over the kit's printer. -/
import Derived.Test.YtdgikheibcmcjaaRows
import Derived.Test.YtdgikheibcmcjaaX33
import Derived.Test.YtdgikheibcmcjaaPureFnExactCompare
import Derived.Test.YtdgikheibcmcjaaVOpen
import Derived.WalkKit
import Derived.ProofKit
import Derived.OpenShut
import Derived.ShutString
import Derived.ChangeOld
import Derived.Below
import Derived.SizedLaws
namespace Go.Proofs.Ytdgikheibcmcjaa.fnExactCompare
open Go.ChangeShapes Go.WideShapes Go.ChangeAt Go.RowKit Go.Proofs.YtdgikheibcmcjaaV.PrintWords Go.Proofs.Ytdgikheibcmcjaa.X
open Go.ChangeMaps (open_string shut_string)
set_option linter.unusedVariables false
theorem own : ownKnob Try.prog.godebug = none := by kernel_rfl
theorem laidOut : laidOutB Try.prog = true := by kernel_rfl
set_option maxRecDepth 100000 in
theorem lifted (os : Os) (started : os.Started) (H : Type) (enc : TypeId × Value → H) :
    ReturnsInHanded {} Try.checked os 14 .any (Rows.fnExactCompareSpec.pre6 enc Try.prog Try.f14 Rows.fnExactCompareRow.domain false) (Rows.fnExactCompareSpec.post enc Try.prog Try.f14 false true false false) := by
  refine returnsInHanded_of_change_sized (C := Try.checked) own started (by kernel_rfl) Try.func14
    (ChangeSpec.witness6 (enc := enc) (C := Try.checked) false ⟨#[], #[.int .i64 0, .agg #[.int .i64 0, .int .i64 0, .string ByteArray.empty], .agg #[.int .i64 0, .int .i64 0, .string ByteArray.empty]], []⟩ 8 (by kernel_rfl) (by kernel_rfl) (by kernel_rfl) (by kernel_rfl)) ?_
  intro W base args ds gs before hval0 hW hcnd hsz0 _
  have hval : ∀ (j : Nat) t v, Try.f14.params[j]? = some t → args[j]? = some v → Value.okWide Try.prog W .any base t v := hval0
  have hW' := hW
  obtain ⟨p, q, hA0, hV, rfl, hfz, hnd⟩ := hW
  have hA : DataW.TrodAll enc Try.prog W 0 (fun _ => true) true Try.f14.params.toList args.toList ds p := hA0
  rw [Try.params14] at hA hval
  obtain ⟨v0, vs0, d0, ds0, p0, q0, hargs, rfl, rfl, h0, r0⟩ := trodAll_cons hA
  obtain ⟨v1, vs1, d1, ds1, p1, q1, rfl, rfl, rfl, h1, r1⟩ := trodAll_cons r0
  obtain ⟨v2, vs2, d2, ds2, p2, q2, rfl, rfl, rfl, h2, r2⟩ := trodAll_cons r1
  obtain ⟨rfl, rfl, rfl⟩ := trodAll_nil r2
  obtain rfl : args = #[v0, v1, v2] := by cases args; simp_all
  obtain ⟨rfl, rfl⟩ := trodVars_none hV
  have k0 := h0
  have lt0 : ∀ x ∈ p0, x.block < W.heap.size := by obtain ⟨m, hm⟩ := k0; exact DataW.trod_lt m _ _ _ hm
  obtain ⟨a0, rfl, rfl, rfl, g0⟩ := open_int Try.underlying3 (hval 0 3 v0 rfl rfl) h0
  have k1 := h1
  have lt1 : ∀ x ∈ p1, x.block < W.heap.size := by obtain ⟨m, hm⟩ := k1; exact DataW.trod_lt m _ _ _ hm
  obtain ⟨cs1, rfl, _⟩ := okWide_struct Try.underlying23 (hval 1 23 v1 rfl rfl)
  obtain ⟨m1, hm1⟩ := h1
  obtain ⟨⟨a1_0, ⟨a1_1, a1_2⟩⟩, ⟨_, _, e1, rfl, ⟨_, _, rfl, rfl, rfl⟩⟩, ⟨g1_0, ⟨g1_1, g1_2⟩⟩⟩ := (Opens.struct Try.underlying23 (L := 3) (by kernel_rfl) (OpensF.cons (m := 1) rfl (by kernel_rfl) (Opens.int Try.underlying3) (OpensF.cons (m := 1) rfl (by kernel_rfl) (Opens.int Try.underlying3) (OpensF.last (m := 1) rfl (by kernel_rfl) rfl (Opens.string Try.underlying9))))) H enc W _ _ _ m1 _ _ hm1
  have e1' := Array.ext' (xs := cs1) (ys := #[.int .i64 a1_0, .int .i64 a1_1, .string a1_2]) e1
  subst e1'
  have k2 := h2
  have lt2 : ∀ x ∈ p2, x.block < W.heap.size := by obtain ⟨m, hm⟩ := k2; exact DataW.trod_lt m _ _ _ hm
  obtain ⟨cs2, rfl, _⟩ := okWide_struct Try.underlying23 (hval 2 23 v2 rfl rfl)
  obtain ⟨m2, hm2⟩ := h2
  obtain ⟨⟨a2_0, ⟨a2_1, a2_2⟩⟩, ⟨_, _, e2, rfl, ⟨_, _, rfl, rfl, rfl⟩⟩, ⟨g2_0, ⟨g2_1, g2_2⟩⟩⟩ := (Opens.struct Try.underlying23 (L := 3) (by kernel_rfl) (OpensF.cons (m := 1) rfl (by kernel_rfl) (Opens.int Try.underlying3) (OpensF.cons (m := 1) rfl (by kernel_rfl) (Opens.int Try.underlying3) (OpensF.last (m := 1) rfl (by kernel_rfl) rfl (Opens.string Try.underlying9))))) H enc W _ _ _ m2 _ _ hm2
  have e2' := Array.ext' (xs := cs2) (ys := #[.int .i64 a2_0, .int .i64 a2_1, .string a2_2]) e2
  subst e2'
  clear hA0 hval0 hsz0
  obtain ⟨k, hP⟩ := Pure.FnExactCompare a0 a1_0 a1_1 a1_2 a2_0 a2_1 a2_2 g0 g1_0 g1_1 g1_2 g2_0 g2_1 g2_2
  refine (laws_FnExactCompare.calls k a0 a1_0 a1_1 a1_2 a2_0 a2_1 a2_2 true W  hP).mono fun e W' ⟨he, bel0⟩ => ?_
  have bel : Below W.heap.size W W' := bel0
  subst he
  exact ⟨_, rfl, _, _, _, [], _, [], hW', trodAll_mk1 (shut_bool Try.underlying4 _), (trodAll_cons_mk (Below.trod laidOut (by kernel_rfl) (of_decide_eq_true (by kernel_rfl)) k0 bel lt0) (trodAll_cons_mk (Below.trod laidOut (by kernel_rfl) (of_decide_eq_true (by kernel_rfl)) k1 bel lt1) (trodAll_cons_mk (Below.trod laidOut (by kernel_rfl) (of_decide_eq_true (by kernel_rfl)) k2 bel lt2) trodAll_mk0))), rfl, bel.frame _, fun h => by cases h⟩
theorem over : Rows.fnExactCompareRow.holds Try.pinned (OpenSpec.ofChange Rows.fnExactCompareSpec) :=
  OpenClaim.holds_of_wide 14 Try.f14 rfl rfl rfl rfl rfl rfl rfl ⟨rfl, rfl, rfl, rfl, rfl⟩ rfl rfl rfl rfl rfl (by kernel_rfl) Try.func14 (by kernel_rfl)
    (of_decide_eq_true (by kernel_rfl)) (by unfold Func.isWrapper; first | (rw [if_pos (by decide +kernel)]; kernel_rfl) | (rw [if_neg (by decide +kernel)]; exact ⟨rfl, rfl⟩))
    (fun os started H enc _ => lifted os started H enc)
theorem proved : Rows.FnExactCompareSaid := over
#print axioms proved
end Go.Proofs.Ytdgikheibcmcjaa.fnExactCompare
namespace Go.Proofs.Ytdgikheibcmcjaa
/-- The row, under a short name, for the claim. -/
theorem fnExactCompare_holds : Rows.FnExactCompareSaid := fnExactCompare.proved
end Go.Proofs.Ytdgikheibcmcjaa
