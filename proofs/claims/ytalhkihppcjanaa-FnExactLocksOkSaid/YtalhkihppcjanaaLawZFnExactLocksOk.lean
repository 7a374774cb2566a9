/- Plain functions for the Go functions of this seat, and proofs that each call answers as its plain function does; made by this session's program over the kit's printer. -/
import Derived.Test.YtalhkihppcjanaaRows
import Derived.Test.YtalhkihppcjanaaVOpen
import Derived.WalkKit
import Derived.ProofKit
import Derived.OpenShut
import Derived.ShutString
import Derived.ChangeOld
import Derived.Below
import Derived.SizedLaws
import Derived.Test.YtalhkihppcjanaaX0
import Derived.Test.YtalhkihppcjanaaZFnExactLocksOk5
import Derived.Test.YtalhkihppcjanaaPureZFnExactLocksOk
namespace Go.Proofs.Ytalhkihppcjanaa.fnExactLocksOk
open Go.ChangeShapes Go.WideShapes Go.ChangeAt Go.RowKit Go.Proofs.YtalhkihppcjanaaV.PrintWords Go.Proofs.Ytalhkihppcjanaa.X
open Go.ChangeMaps (open_string shut_string)
set_option linter.unusedVariables false
theorem own : ownKnob Try.prog.godebug = none := by kernel_rfl
theorem laidOut : laidOutB Try.prog = true := by kernel_rfl
set_option maxRecDepth 100000 in
theorem lifted (os : Os) (started : os.Started) (H : Type) (enc : TypeId × Value → H) :
    ReturnsInHanded {} Try.checked os 6 .any (Rows.fnExactLocksOkSpec.pre6 enc Try.prog Try.f6 Rows.fnExactLocksOkRow.domain false) (Rows.fnExactLocksOkSpec.post enc Try.prog Try.f6 false true false false) := by
  refine returnsInHanded_of_change_sized (C := Try.checked) own started (by kernel_rfl) Try.func6
    (ChangeSpec.witness6 (enc := enc) (C := Try.checked) false ⟨#[], #[.agg #[.slice none 0 0, .slice none 0 0]], []⟩ 8 (by kernel_rfl) (by kernel_rfl) (by kernel_rfl) (by kernel_rfl)) ?_
  intro W base args ds gs before hval0 hW hcnd hsz0 _
  have hval : ∀ (j : Nat) t v, Try.f6.params[j]? = some t → args[j]? = some v → Value.okWide Try.prog W .any base t v := hval0
  have hW' := hW
  obtain ⟨p, q, hA0, hV, rfl, hfz, hnd⟩ := hW
  have hA : DataW.TrodAll enc Try.prog W 0 (fun _ => true) true Try.f6.params.toList args.toList ds p := hA0
  rw [Try.params6] at hA hval
  obtain ⟨v0, vs0, d0, ds0, p0, q0, hargs, rfl, rfl, h0, r0⟩ := trodAll_cons hA
  obtain ⟨rfl, rfl, rfl⟩ := trodAll_nil r0
  obtain rfl : args = #[v0] := by cases args; simp_all
  obtain ⟨rfl, rfl⟩ := trodVars_none hV
  have k0 := h0
  have lt0 : ∀ x ∈ p0, x.block < W.heap.size := by obtain ⟨m, hm⟩ := k0; exact DataW.trod_lt m _ _ _ hm
  obtain ⟨cs0, rfl, _⟩ := okWide_struct Try.underlying48 (hval 0 48 v0 rfl rfl)
  obtain ⟨m0, hm0⟩ := h0
  obtain ⟨⟨l0_0, l0_1⟩, ⟨_, _, e0, ⟨A0_0, c0_0, rfl, hc0_0, hr0_0⟩, ⟨A0_1, c0_1, rfl, hc0_1, hr0_1⟩⟩, ⟨g0_0, g0_1⟩⟩ := (Opens.struct Try.underlying48 (L := 2) (by kernel_rfl) (OpensF.cons (m := 1) rfl (by kernel_rfl) (Opens.slice Try.underlying46 (by kernel_rfl) (show Opens Try.prog 119 k119 (fun x => ((Lit.int .i64 x.f0).wf = true ∧ ((Lit.int .i64 x.f1).wf = true ∧ ((Lit.int .i64 x.f2).wf = true)))) from Opens.iso (Opens.struct Try.underlying119 (L := 3) (by kernel_rfl) (OpensF.cons (m := 1) rfl (by kernel_rfl) (Opens.int Try.underlying3) (OpensF.cons (m := 1) rfl (by kernel_rfl) (Opens.int Try.underlying3) (OpensF.last (m := 1) rfl (by kernel_rfl) rfl (Opens.int Try.underlying3))))) (fun x : S119 => (x.f0, x.f1, x.f2)) (fun p => (⟨p.1, p.2.1, p.2.2⟩ : S119)) (fun _ => rfl))) (OpensF.last (m := 1) rfl (by kernel_rfl) rfl (Opens.slice Try.underlying46 (by kernel_rfl) (show Opens Try.prog 119 k119 (fun x => ((Lit.int .i64 x.f0).wf = true ∧ ((Lit.int .i64 x.f1).wf = true ∧ ((Lit.int .i64 x.f2).wf = true)))) from Opens.iso (Opens.struct Try.underlying119 (L := 3) (by kernel_rfl) (OpensF.cons (m := 1) rfl (by kernel_rfl) (Opens.int Try.underlying3) (OpensF.cons (m := 1) rfl (by kernel_rfl) (Opens.int Try.underlying3) (OpensF.last (m := 1) rfl (by kernel_rfl) rfl (Opens.int Try.underlying3))))) (fun x : S119 => (x.f0, x.f1, x.f2)) (fun p => (⟨p.1, p.2.1, p.2.2⟩ : S119)) (fun _ => rfl)))))) H enc W _ _ _ m0 _ _ hm0
  have e0' := Array.ext' (xs := cs0) (ys := #[.slice A0_0 l0_0.length c0_0, .slice A0_1 l0_1.length c0_1]) e0
  subst e0'
  clear hA0 hval0 hsz0
  obtain ⟨k, hP⟩ := Pure.FnExactLocksOk l0_0 l0_1 g0_0 g0_1
  refine (laws_FnExactLocksOk.calls k _ _ l0_0 _ _ l0_1 true W hr0_0 hc0_0 hr0_1 hc0_1 hP).mono fun e W' ⟨he, bel0⟩ => ?_
  have bel : Below W.heap.size W W' := bel0
  subst he
  exact ⟨_, rfl, _, _, _, [], _, [], hW', trodAll_mk1 (shut_bool Try.underlying4 _), (trodAll_cons_mk (Below.trod laidOut (by kernel_rfl) (of_decide_eq_true (by kernel_rfl)) k0 bel lt0) trodAll_mk0), rfl, bel.frame _, fun h => by cases h⟩
theorem over : Rows.fnExactLocksOkRow.holds Try.pinned (OpenSpec.ofChange Rows.fnExactLocksOkSpec) :=
  OpenClaim.holds_of_wide 6 Try.f6 rfl rfl rfl rfl rfl rfl rfl ⟨rfl, rfl, rfl, rfl, rfl⟩ rfl rfl rfl rfl rfl (by kernel_rfl) Try.func6 (by kernel_rfl)
    (of_decide_eq_true (by kernel_rfl)) (by unfold Func.isWrapper; first | (rw [if_pos (by decide +kernel)]; kernel_rfl) | (rw [if_neg (by decide +kernel)]; exact ⟨rfl, rfl⟩))
    (fun os started H enc _ => lifted os started H enc)
theorem proved : Rows.FnExactLocksOkSaid := over
#print axioms proved
end Go.Proofs.Ytalhkihppcjanaa.fnExactLocksOk
namespace Go.Proofs.Ytalhkihppcjanaa
/-- The row, under a short name, for the claim. -/
theorem fnExactLocksOk_holds : Rows.FnExactLocksOkSaid := fnExactLocksOk.proved
end Go.Proofs.Ytalhkihppcjanaa
