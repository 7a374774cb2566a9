/- Plain functions for the Go functions of this seat, and proofs that each call answers as its plain function does; made by this session's program over the kit's printer. -/
import Derived.Test.YtkgnfbockgcdpaaX0
import Derived.Test.YtkgnfbockgcdpaaZFnExactPartsFor0
namespace Go.Proofs.Ytkgnfbockgcdpaa.X
open Go.RowKit Go.Proofs.YtkgnfbockgcdpaaV.PrintWords Go.Proofs.YtkgnfbockgcdpaaV.PrintLast Go.Proofs.YtkgnfbockgcdpaaV.PrintMore
attribute [local go_sem] max2_int min2_int max_two min_two max_three min_three max_four min_four   -- for this text's walks alone
set_option linter.unusedVariables false
set_option linter.unusedSimpArgs false

section
/-! ### spec_PartsFor: function 36 -/
mutual
def spec_PartsFor.j0 : Nat → List Int → Int → Int → List Int → Bool → Option (List Int)
  | 0, _, _, _, _, _ => none
  | k + 1, x0, x1, x2, x7, x24 => if x24 = true then (some x7) else (spec_PartsFor.l0 k x0 x1 x2 x7 0 0)
def spec_PartsFor.j2 : Nat → List Int → Int → Int → List Int → Int → Int → Option (List Int)
  | 0, _, _, _, _, _, _ => none
  | k + 1, x0, x1, x2, x7, x8, x9 => spec_PartsFor.l1 k x0 x1 x2 x7 x8 x9
def spec_PartsFor.j4 : Nat → List Int → Int → List Int → Int → Int → Option (List Int)
  | 0, _, _, _, _, _ => none
  | k + 1, x0, x1, x7, x8, x9 => spec_PartsFor.l2 k x0 x1 x7 x8 x9 0
def spec_PartsFor.l2 : Nat → List Int → Int → List Int → Int → Int → Int → Option (List Int)
  | 0, _, _, _, _, _, _ => none
  | k + 1, x0, x1, x7, x8, x9, x10 => if x10 ≤ (x0.length : Int) then (if x1 = 2 then (if x7.length < 17592186044416 then (spec_PartsFor.l2 k x0 x1 (x7 ++ [x10]) x8 x9 (wrap64 (x10 + 1))) else (none)) else (if x1 = 1 then (if x10 = x8 then (if x7.length < 17592186044416 then (spec_PartsFor.l2 k x0 x1 (x7 ++ [x10]) x8 x9 (wrap64 (x10 + 1))) else (none)) else (if x1 = 3 then (if x10 ≤ x9 then (if x7.length < 17592186044416 then (spec_PartsFor.l2 k x0 x1 (x7 ++ [x10]) x8 x9 (wrap64 (x10 + 1))) else (none)) else (if x1 = 4 then (if x10 ≤ x8 then (if x7.length < 17592186044416 then (spec_PartsFor.l2 k x0 x1 (x7 ++ [x10]) x8 x9 (wrap64 (x10 + 1))) else (none)) else (spec_PartsFor.l2 k x0 x1 x7 x8 x9 (wrap64 (x10 + 1)))) else (spec_PartsFor.l2 k x0 x1 x7 x8 x9 (wrap64 (x10 + 1))))) else (if x1 = 4 then (if x10 ≤ x8 then (if x7.length < 17592186044416 then (spec_PartsFor.l2 k x0 x1 (x7 ++ [x10]) x8 x9 (wrap64 (x10 + 1))) else (none)) else (spec_PartsFor.l2 k x0 x1 x7 x8 x9 (wrap64 (x10 + 1)))) else (spec_PartsFor.l2 k x0 x1 x7 x8 x9 (wrap64 (x10 + 1)))))) else (if x1 = 3 then (if x10 ≤ x9 then (if x7.length < 17592186044416 then (spec_PartsFor.l2 k x0 x1 (x7 ++ [x10]) x8 x9 (wrap64 (x10 + 1))) else (none)) else (if x1 = 4 then (if x10 ≤ x8 then (if x7.length < 17592186044416 then (spec_PartsFor.l2 k x0 x1 (x7 ++ [x10]) x8 x9 (wrap64 (x10 + 1))) else (none)) else (spec_PartsFor.l2 k x0 x1 x7 x8 x9 (wrap64 (x10 + 1)))) else (spec_PartsFor.l2 k x0 x1 x7 x8 x9 (wrap64 (x10 + 1))))) else (if x1 = 4 then (if x10 ≤ x8 then (if x7.length < 17592186044416 then (spec_PartsFor.l2 k x0 x1 (x7 ++ [x10]) x8 x9 (wrap64 (x10 + 1))) else (none)) else (spec_PartsFor.l2 k x0 x1 x7 x8 x9 (wrap64 (x10 + 1)))) else (spec_PartsFor.l2 k x0 x1 x7 x8 x9 (wrap64 (x10 + 1))))))) else (some x7)
def spec_PartsFor.l1 : Nat → List Int → Int → Int → List Int → Int → Int → Option (List Int)
  | 0, _, _, _, _, _, _ => none
  | k + 1, x0, x1, x2, x7, x8, x9 => if x9 < (x0.length : Int) then (if 0 ≤ x9 then (if (rd x0 x9) < x2 then (spec_PartsFor.l1 k x0 x1 x2 x7 x8 (wrap64 (x9 + 1))) else (spec_PartsFor.j4 k x0 x1 x7 x8 x9)) else (none)) else (spec_PartsFor.j4 k x0 x1 x7 x8 x9)
def spec_PartsFor.l0 : Nat → List Int → Int → Int → List Int → Int → Int → Option (List Int)
  | 0, _, _, _, _, _, _ => none
  | k + 1, x0, x1, x2, x7, x8, x9 => if x8 < (x0.length : Int) then (if 0 ≤ x8 then (if (rd x0 x8) ≤ x2 then (spec_PartsFor.l0 k x0 x1 x2 x7 (wrap64 (x8 + 1)) x9) else (spec_PartsFor.j2 k x0 x1 x2 x7 x8 x9)) else (none)) else (spec_PartsFor.j2 k x0 x1 x2 x7 x8 x9)
end
def spec_PartsFor.f (k : Nat) (l0 : List Int) (a1 : Int) (a2 : Int) : Option (List Int) := (some (([] : List Int) : List Int)).bind fun y491 => ((spec_CutsOk.f k l0).bind fun t494 => (if t494 = true then ((spec_l1In.f a2 (-9999) 9999).bind fun t495 => (if t495 = true then ((spec_l1In.f a1 1 4).bind fun t496 => (spec_PartsFor.j0 k l0 a1 a2 y491 (!t496))) else (spec_PartsFor.j0 k l0 a1 a2 y491 true))) else (spec_PartsFor.j0 k l0 a1 a2 y491 true)))
theorem spec_PartsFor.mono_l : ∀ k, (∀ y0 y1 y2 y3 y4, LeO (spec_PartsFor.j0 k y0 y1 y2 y3 y4) (spec_PartsFor.j0 (k + 1) y0 y1 y2 y3 y4)) ∧ (∀ y0 y1 y2 y3 y4 y5, LeO (spec_PartsFor.j2 k y0 y1 y2 y3 y4 y5) (spec_PartsFor.j2 (k + 1) y0 y1 y2 y3 y4 y5)) ∧ (∀ y0 y1 y2 y3 y4, LeO (spec_PartsFor.j4 k y0 y1 y2 y3 y4) (spec_PartsFor.j4 (k + 1) y0 y1 y2 y3 y4)) ∧ (∀ y0 y1 y2 y3 y4 y5, LeO (spec_PartsFor.l2 k y0 y1 y2 y3 y4 y5) (spec_PartsFor.l2 (k + 1) y0 y1 y2 y3 y4 y5)) ∧ (∀ y0 y1 y2 y3 y4 y5, LeO (spec_PartsFor.l1 k y0 y1 y2 y3 y4 y5) (spec_PartsFor.l1 (k + 1) y0 y1 y2 y3 y4 y5)) ∧ (∀ y0 y1 y2 y3 y4 y5, LeO (spec_PartsFor.l0 k y0 y1 y2 y3 y4 y5) (spec_PartsFor.l0 (k + 1) y0 y1 y2 y3 y4 y5))
  | 0 => ⟨fun _ _ _ _ _ r h => by simp [spec_PartsFor.j0] at h, fun _ _ _ _ _ _ r h => by simp [spec_PartsFor.j2] at h, fun _ _ _ _ _ r h => by simp [spec_PartsFor.j4] at h, fun _ _ _ _ _ _ r h => by simp [spec_PartsFor.l2] at h, fun _ _ _ _ _ _ r h => by simp [spec_PartsFor.l1] at h, fun _ _ _ _ _ _ r h => by simp [spec_PartsFor.l0] at h⟩
  | k + 1 => by
    obtain ⟨ih0, ih1, ih2, ih3, ih4, ih5⟩ := spec_PartsFor.mono_l k
    refine ⟨?_, ?_, ?_, ?_, ?_, ?_⟩
    · intro y0 y1 y2 y3 y4
      unfold spec_PartsFor.j0
      repeat' first
      | (with_reducible exact ih0 _ _ _ _ _)
      | (with_reducible exact ih1 _ _ _ _ _ _)
      | (with_reducible exact ih2 _ _ _ _ _)
      | (with_reducible exact ih3 _ _ _ _ _ _)
      | (with_reducible exact ih4 _ _ _ _ _ _)
      | (with_reducible exact ih5 _ _ _ _ _ _)
      | (with_reducible exact spec_CutsOk.mono _ _)
      | (with_reducible exact LeO.refl _)
      | (with_reducible exact LeO.none _)
      | (with_reducible refine LeO.ite ?_ ?_)
      | (with_reducible refine LeO.bind ?_ (fun _ => ?_))
      | exact ih0 _ _ _ _ _
      | exact ih1 _ _ _ _ _ _
      | exact ih2 _ _ _ _ _
      | exact ih3 _ _ _ _ _ _
      | exact ih4 _ _ _ _ _ _
      | exact ih5 _ _ _ _ _ _
      | exact spec_CutsOk.mono _ _
      | exact LeO.none _
      | refine LeO.ite ?_ ?_
      | refine LeO.bind ?_ (fun _ => ?_)
    · intro y0 y1 y2 y3 y4 y5
      unfold spec_PartsFor.j2
      repeat' first
      | (with_reducible exact ih0 _ _ _ _ _)
      | (with_reducible exact ih1 _ _ _ _ _ _)
      | (with_reducible exact ih2 _ _ _ _ _)
      | (with_reducible exact ih3 _ _ _ _ _ _)
      | (with_reducible exact ih4 _ _ _ _ _ _)
      | (with_reducible exact ih5 _ _ _ _ _ _)
      | (with_reducible exact spec_CutsOk.mono _ _)
      | (with_reducible exact LeO.refl _)
      | (with_reducible exact LeO.none _)
      | (with_reducible refine LeO.ite ?_ ?_)
      | (with_reducible refine LeO.bind ?_ (fun _ => ?_))
      | exact ih0 _ _ _ _ _
      | exact ih1 _ _ _ _ _ _
      | exact ih2 _ _ _ _ _
      | exact ih3 _ _ _ _ _ _
      | exact ih4 _ _ _ _ _ _
      | exact ih5 _ _ _ _ _ _
      | exact spec_CutsOk.mono _ _
      | exact LeO.none _
      | refine LeO.ite ?_ ?_
      | refine LeO.bind ?_ (fun _ => ?_)
    · intro y0 y1 y2 y3 y4
      unfold spec_PartsFor.j4
      repeat' first
      | (with_reducible exact ih0 _ _ _ _ _)
      | (with_reducible exact ih1 _ _ _ _ _ _)
      | (with_reducible exact ih2 _ _ _ _ _)
      | (with_reducible exact ih3 _ _ _ _ _ _)
      | (with_reducible exact ih4 _ _ _ _ _ _)
      | (with_reducible exact ih5 _ _ _ _ _ _)
      | (with_reducible exact spec_CutsOk.mono _ _)
      | (with_reducible exact LeO.refl _)
      | (with_reducible exact LeO.none _)
      | (with_reducible refine LeO.ite ?_ ?_)
      | (with_reducible refine LeO.bind ?_ (fun _ => ?_))
      | exact ih0 _ _ _ _ _
      | exact ih1 _ _ _ _ _ _
      | exact ih2 _ _ _ _ _
      | exact ih3 _ _ _ _ _ _
      | exact ih4 _ _ _ _ _ _
      | exact ih5 _ _ _ _ _ _
      | exact spec_CutsOk.mono _ _
      | exact LeO.none _
      | refine LeO.ite ?_ ?_
      | refine LeO.bind ?_ (fun _ => ?_)
    · intro y0 y1 y2 y3 y4 y5
      unfold spec_PartsFor.l2
      repeat' first
      | (with_reducible exact ih0 _ _ _ _ _)
      | (with_reducible exact ih1 _ _ _ _ _ _)
      | (with_reducible exact ih2 _ _ _ _ _)
      | (with_reducible exact ih3 _ _ _ _ _ _)
      | (with_reducible exact ih4 _ _ _ _ _ _)
      | (with_reducible exact ih5 _ _ _ _ _ _)
      | (with_reducible exact spec_CutsOk.mono _ _)
      | (with_reducible exact LeO.refl _)
      | (with_reducible exact LeO.none _)
      | (with_reducible refine LeO.ite ?_ ?_)
      | (with_reducible refine LeO.bind ?_ (fun _ => ?_))
      | exact ih0 _ _ _ _ _
      | exact ih1 _ _ _ _ _ _
      | exact ih2 _ _ _ _ _
      | exact ih3 _ _ _ _ _ _
      | exact ih4 _ _ _ _ _ _
      | exact ih5 _ _ _ _ _ _
      | exact spec_CutsOk.mono _ _
      | exact LeO.none _
      | refine LeO.ite ?_ ?_
      | refine LeO.bind ?_ (fun _ => ?_)
    · intro y0 y1 y2 y3 y4 y5
      unfold spec_PartsFor.l1
      repeat' first
      | (with_reducible exact ih0 _ _ _ _ _)
      | (with_reducible exact ih1 _ _ _ _ _ _)
      | (with_reducible exact ih2 _ _ _ _ _)
      | (with_reducible exact ih3 _ _ _ _ _ _)
      | (with_reducible exact ih4 _ _ _ _ _ _)
      | (with_reducible exact ih5 _ _ _ _ _ _)
      | (with_reducible exact spec_CutsOk.mono _ _)
      | (with_reducible exact LeO.refl _)
      | (with_reducible exact LeO.none _)
      | (with_reducible refine LeO.ite ?_ ?_)
      | (with_reducible refine LeO.bind ?_ (fun _ => ?_))
      | exact ih0 _ _ _ _ _
      | exact ih1 _ _ _ _ _ _
      | exact ih2 _ _ _ _ _
      | exact ih3 _ _ _ _ _ _
      | exact ih4 _ _ _ _ _ _
      | exact ih5 _ _ _ _ _ _
      | exact spec_CutsOk.mono _ _
      | exact LeO.none _
      | refine LeO.ite ?_ ?_
      | refine LeO.bind ?_ (fun _ => ?_)
    · intro y0 y1 y2 y3 y4 y5
      unfold spec_PartsFor.l0
      repeat' first
      | (with_reducible exact ih0 _ _ _ _ _)
      | (with_reducible exact ih1 _ _ _ _ _ _)
      | (with_reducible exact ih2 _ _ _ _ _)
      | (with_reducible exact ih3 _ _ _ _ _ _)
      | (with_reducible exact ih4 _ _ _ _ _ _)
      | (with_reducible exact ih5 _ _ _ _ _ _)
      | (with_reducible exact spec_CutsOk.mono _ _)
      | (with_reducible exact LeO.refl _)
      | (with_reducible exact LeO.none _)
      | (with_reducible refine LeO.ite ?_ ?_)
      | (with_reducible refine LeO.bind ?_ (fun _ => ?_))
      | exact ih0 _ _ _ _ _
      | exact ih1 _ _ _ _ _ _
      | exact ih2 _ _ _ _ _
      | exact ih3 _ _ _ _ _ _
      | exact ih4 _ _ _ _ _ _
      | exact ih5 _ _ _ _ _ _
      | exact spec_CutsOk.mono _ _
      | exact LeO.none _
      | refine LeO.ite ?_ ?_
      | refine LeO.bind ?_ (fun _ => ?_)
theorem spec_PartsFor.mono : ∀ a0 a1 a2 k, LeO (spec_PartsFor.f k a0 a1 a2) (spec_PartsFor.f (k + 1) a0 a1 a2) := by
  intro a0 a1 a2 k
  obtain ⟨ih0, ih1, ih2, ih3, ih4, ih5⟩ := spec_PartsFor.mono_l k
  unfold spec_PartsFor.f
  repeat' first
      | (with_reducible exact ih0 _ _ _ _ _)
      | (with_reducible exact ih1 _ _ _ _ _ _)
      | (with_reducible exact ih2 _ _ _ _ _)
      | (with_reducible exact ih3 _ _ _ _ _ _)
      | (with_reducible exact ih4 _ _ _ _ _ _)
      | (with_reducible exact ih5 _ _ _ _ _ _)
      | (with_reducible exact spec_CutsOk.mono _ _)
      | (with_reducible exact LeO.refl _)
      | (with_reducible exact LeO.none _)
      | (with_reducible refine LeO.ite ?_ ?_)
      | (with_reducible refine LeO.bind ?_ (fun _ => ?_))
      | exact ih0 _ _ _ _ _
      | exact ih1 _ _ _ _ _ _
      | exact ih2 _ _ _ _ _
      | exact ih3 _ _ _ _ _ _
      | exact ih4 _ _ _ _ _ _
      | exact ih5 _ _ _ _ _ _
      | exact spec_CutsOk.mono _ _
      | exact LeO.none _
      | refine LeO.ite ?_ ?_
      | refine LeO.bind ?_ (fun _ => ?_)
set_option maxHeartbeats 8000000 in
set_option maxRecDepth 100000 in
theorem spec_PartsFor.calls (k : Nat) (A0 : Option Addr) (c0 : Nat) (l0 : List Int) (a1 : Int) (a2 : Int) (r : List Int) (w : World) (hr0 : Kd.C (Kd.int .i64) w A0 l0.length l0) (hc0 : l0.length ≤ c0) (h : spec_PartsFor.f k l0 a1 a2 = some r) :
    Calls Try.prog 36 #[.slice A0 l0.length c0, .int .i64 a1, .int .i64 a2] w fun e w' => ∃ v0_ : Value, e = .returned (v0_) ∧ Kd.R (Kd.int .i64) 3 w' w.heap.size (fun _ => True) v0_ r ∧ Below w.heap.size w w' := by
  have HR0 := Aside0.mk hr0
  have HC0 := Aside0.mk hc0
  clear hr0 hc0
  have HB := Aside0.mk (Below.refl w.heap.size w)
  have H : ((some (([] : List Int) : List Int)).bind fun y491 => ((spec_CutsOk.f k l0).bind fun t494 => (if t494 = true then ((spec_l1In.f a2 (-9999) 9999).bind fun t495 => (if t495 = true then ((spec_l1In.f a1 1 4).bind fun t496 => (spec_PartsFor.j0 k l0 a1 a2 y491 (!t496))) else (spec_PartsFor.j0 k l0 a1 a2 y491 true))) else (spec_PartsFor.j0 k l0 a1 a2 y491 true)))) = some r := h
  clear h
  obtain ⟨y491, hy491⟩ : ∃ y_ : List Int, y_ = (([] : List Int)) := ⟨_, rfl⟩
  replace H : ((spec_CutsOk.f k l0).bind fun t494 => (if t494 = true then ((spec_l1In.f a2 (-9999) 9999).bind fun t495 => (if t495 = true then ((spec_l1In.f a1 1 4).bind fun t496 => (spec_PartsFor.j0 k l0 a1 a2 y491 (!t496))) else (spec_PartsFor.j0 k l0 a1 a2 y491 true))) else (spec_PartsFor.j0 k l0 a1 a2 y491 true))) = some r := by first | (rw [hy491]; with_reducible exact H) | (have H2_ := (Option.bind_some _ _).symm.trans H; rw [hy491]; with_reducible exact H2_) | (have H2_ := (Option.bind_some _ _).symm.trans H; with_reducible exact H2_) | with_reducible exact H | (rw [hy491]; exact H) | exact H
  have Ny491 := Aside0.mk hy491
  clear hy491
  have HC4 := Aside0.mk H
  clear H
  go_enter Try.func36, Try.ntmps36
  go_upto_region 2 with (first | ((with_reducible refine gate_dst (N := 11) rfl ?_); refine Kd.R_lit (Kd.int .i64) _ 3 ?hg (N := 11) ?hd (xs := ([] : List Int)) (inner := []) (ok := fun _ => True) (okp := fun _ => True) ?hr ?hp (fun _ hk => hk) trivial (Below.refl _ _) (Nat.le_refl _) (by simp) ?_; (case hd => rfl); (case hg => rfl); (case hr => first | (go_simp; done) | (go_simp; rfl)); (case hp => exact (Reps.none _ _)); intro v492 w5 ho6 hb hg_ hnew_; clear hg_ hnew_; (first | rw [← Ny491.out] at ho6 | (simp only [Int.reduceToNat] at ho6; rw [← Ny491.out] at ho6)); have n0_ := Aside0.mk (Kd.R_lower ho6 (below_size (by repeat (first | (with_reducible first | exact HB.out | apply below_alloc | apply pw_below_drewN | apply below_drew1) | exact HB.out)))); have n1_ := Aside0.mk (below_step (by repeat (first | (with_reducible first | exact HB.out | apply below_alloc | apply pw_below_drewN | apply below_drew1) | exact HB.out)) hb); clear HB; have HO493 := n0_; have HB := n1_; clear n0_ n1_; clear hb ho6))
  (try simp only [Act.put, List.setIfInBounds_toArray, List.set_cons_zero, List.set_cons_succ])
  go_cut [24] (fun v24 wc => ∃ (kq : Nat) (x24_3 : Bool), v24 = .bool x24_3 ∧ Aside0 (spec_PartsFor.j0 kq l0 a1 a2 y491 x24_3 = some r) ∧ Aside0 (kq ≤ k) ∧ Aside0 (Kd.R (Kd.int .i64) 3 wc w.heap.size (fun _ => True) v492 y491) ∧ Aside0 (Below w.heap.size w wc))
  case first =>
    have H := HC4.out
    clear HC4
    replace H := Option.bind_eq_some_iff.mp H
    obtain ⟨t494, A70, H⟩ := H
    replace H : (if t494 = true then ((spec_l1In.f a2 (-9999) 9999).bind fun t495 => (if t495 = true then ((spec_l1In.f a1 1 4).bind fun t496 => (spec_PartsFor.j0 k l0 a1 a2 y491 (!t496))) else (spec_PartsFor.j0 k l0 a1 a2 y491 true))) else (spec_PartsFor.j0 k l0 a1 a2 y491 true)) = some r := H
    have A7 := Aside0.mk A70
    clear A70
    by_cases c8 : t494 = true
    · subst c8
      have H1 : ((spec_l1In.f a2 (-9999) 9999).bind fun t495 => (if t495 = true then ((spec_l1In.f a1 1 4).bind fun t496 => (spec_PartsFor.j0 k l0 a1 a2 y491 (!t496))) else (spec_PartsFor.j0 k l0 a1 a2 y491 true))) = some r := by rw [if_pos rfl] at H; exact H
      clear H
      have H := H1
      clear H1
      replace H := Option.bind_eq_some_iff.mp H
      obtain ⟨t495, A90, H⟩ := H
      replace H : (if t495 = true then ((spec_l1In.f a1 1 4).bind fun t496 => (spec_PartsFor.j0 k l0 a1 a2 y491 (!t496))) else (spec_PartsFor.j0 k l0 a1 a2 y491 true)) = some r := H
      have A9 := Aside0.mk A90
      clear A90
      by_cases c10 : t495 = true
      · subst c10
        have H1 : ((spec_l1In.f a1 1 4).bind fun t496 => (spec_PartsFor.j0 k l0 a1 a2 y491 (!t496))) = some r := by rw [if_pos rfl] at H; exact H
        clear H
        have H := H1
        clear H1
        replace H := Option.bind_eq_some_iff.mp H
        obtain ⟨t496, A110, H⟩ := H
        replace H : (spec_PartsFor.j0 k l0 a1 a2 y491 (!t496)) = some r := H
        have A11 := Aside0.mk A110
        clear A110
        have H' := Aside0.mk H
        clear H
        go_wp2_with (first | ((with_reducible refine gate_callee (f := 15) rfl ?_); refine goesL_ (some 13) rfl rfl Try.func15 (by kernel_rfl) rfl #[.slice A0 l0.length c0] rfl (by (try simp only [List.map_toArray, List.map_cons, List.map_nil]); first | done | rfl | (simp only [List.length_drop, List.length_take]; rfl)) ?_; (with_reducible refine (spec_CutsOk.calls k _ _ l0 true _ ?side1 ?side2 A7.out).mono ?_); (case side1 => repeat (first | exact (Kd.C_below HR0.out HB.out) | (with_reducible refine Kd.C_alloc ?_ _) | (with_reducible refine Kd.C_drewN ?_ _) | (with_reducible refine Kd.C_drew ?_))); (case side2 => exact HC0.out); rintro e w' ⟨rfl, ⟨nd, rfl⟩⟩; refine ⟨_, rfl, ?_⟩) | (go_at_call 49; (with_reducible refine (spec_l1In.calls a2 (-9999) 9999 true _ A9.out).mono ?_); rintro e w' ⟨rfl, ⟨nd, rfl⟩⟩) | (go_at_call 49; (with_reducible refine (spec_l1In.calls a1 1 4 t496 _ A11.out).mono ?_); rintro e w' ⟨rfl, ⟨nd, rfl⟩⟩))
        go_meet
        case rel => exact ⟨_, (!t496), (by first | rfl | (simp; done) | (simp [*]; done)), H', ⟨by first | omega | exact Nat.le_refl _⟩, ⟨by (with_reducible repeat (first | apply Kd.R_alloc | apply Kd.R_drewN | apply Kd.R_drew)); exact HO493.out⟩, ⟨by repeat (first | (with_reducible first | exact HB.out | apply below_alloc | apply pw_below_drewN | apply below_drew1) | exact HB.out)⟩⟩
      · replace c10 := Bool.eq_false_iff.mpr c10
        subst c10
        have H1 : (spec_PartsFor.j0 k l0 a1 a2 y491 true) = some r := by rw [if_neg (show ¬ (false = true) by decide)] at H; exact H
        clear H
        have H := H1
        clear H1
        have H' := Aside0.mk H
        clear H
        go_wp2_with (first | ((with_reducible refine gate_callee (f := 15) rfl ?_); refine goesL_ (some 13) rfl rfl Try.func15 (by kernel_rfl) rfl #[.slice A0 l0.length c0] rfl (by (try simp only [List.map_toArray, List.map_cons, List.map_nil]); first | done | rfl | (simp only [List.length_drop, List.length_take]; rfl)) ?_; (with_reducible refine (spec_CutsOk.calls k _ _ l0 true _ ?side1 ?side2 A7.out).mono ?_); (case side1 => repeat (first | exact (Kd.C_below HR0.out HB.out) | (with_reducible refine Kd.C_alloc ?_ _) | (with_reducible refine Kd.C_drewN ?_ _) | (with_reducible refine Kd.C_drew ?_))); (case side2 => exact HC0.out); rintro e w' ⟨rfl, ⟨nd, rfl⟩⟩; refine ⟨_, rfl, ?_⟩) | (go_at_call 49; (with_reducible refine (spec_l1In.calls a2 (-9999) 9999 false _ A9.out).mono ?_); rintro e w' ⟨rfl, ⟨nd, rfl⟩⟩))
        go_meet
        case rel => exact ⟨_, (true), (by first | rfl | (simp; done) | (simp [*]; done)), H', ⟨by first | omega | exact Nat.le_refl _⟩, ⟨by (with_reducible repeat (first | apply Kd.R_alloc | apply Kd.R_drewN | apply Kd.R_drew)); exact HO493.out⟩, ⟨by repeat (first | (with_reducible first | exact HB.out | apply below_alloc | apply pw_below_drewN | apply below_drew1) | exact HB.out)⟩⟩
    · replace c8 := Bool.eq_false_iff.mpr c8
      subst c8
      have H1 : (spec_PartsFor.j0 k l0 a1 a2 y491 true) = some r := by rw [if_neg (show ¬ (false = true) by decide)] at H; exact H
      clear H
      have H := H1
      clear H1
      have H' := Aside0.mk H
      clear H
      go_wp2_with (first | ((with_reducible refine gate_callee (f := 15) rfl ?_); refine goesL_ (some 13) rfl rfl Try.func15 (by kernel_rfl) rfl #[.slice A0 l0.length c0] rfl (by (try simp only [List.map_toArray, List.map_cons, List.map_nil]); first | done | rfl | (simp only [List.length_drop, List.length_take]; rfl)) ?_; (with_reducible refine (spec_CutsOk.calls k _ _ l0 false _ ?side1 ?side2 A7.out).mono ?_); (case side1 => repeat (first | exact (Kd.C_below HR0.out HB.out) | (with_reducible refine Kd.C_alloc ?_ _) | (with_reducible refine Kd.C_drewN ?_ _) | (with_reducible refine Kd.C_drew ?_))); (case side2 => exact HC0.out); rintro e w' ⟨rfl, ⟨nd, rfl⟩⟩; refine ⟨_, rfl, ?_⟩))
      go_meet
      case rel => exact ⟨_, (true), (by first | rfl | (simp; done) | (simp [*]; done)), H', ⟨by first | omega | exact Nat.le_refl _⟩, ⟨by (with_reducible repeat (first | apply Kd.R_alloc | apply Kd.R_drewN | apply Kd.R_drew)); exact HO493.out⟩, ⟨by repeat (first | (with_reducible first | exact HB.out | apply below_alloc | apply pw_below_drewN | apply below_drew1) | exact HB.out)⟩⟩
  case rest =>
    clear HC4
    try clear c1
    try clear p2
    try clear c3
    try clear c8
    try clear c10
    obtain ⟨kq, x24_3, rfl, HA, HJ3, HO_7, HB⟩ := hcut
    cases kq with
    | zero => exact absurd HA.out (by simp [spec_PartsFor.j0])
    | succ kj3 =>
      have H := HA.out
      clear HA
      simp only [spec_PartsFor.j0] at H
      by_cases c12 : x24_3 = true
      · subst c12
        have H1 : (some y491) = some r := by rw [if_pos rfl] at H; exact H
        clear H
        have H := H1
        clear H1
        obtain rfl := Option.some.inj H
        go_wp2
        go_ret
        exact ⟨_, by first | rfl | (simp [errW_none, errW_some] <;> rfl) | (simp [*, errW_none, errW_some] <;> rfl), by (with_reducible repeat (first | apply Kd.R_alloc | apply Kd.R_drewN | apply Kd.R_drew)); exact HO_7.out, by repeat (first | (with_reducible first | exact HB.out | apply below_alloc | apply pw_below_drewN | apply below_drew1) | exact HB.out)⟩
      · replace c12 := Bool.eq_false_iff.mpr c12
        subst c12
        have H1 : (spec_PartsFor.l0 kj3 l0 a1 a2 y491 0 0) = some r := by rw [if_neg (show ¬ (false = true) by decide)] at H; exact H
        clear H
        have H := H1
        clear H1
        have HC13 := Aside0.mk H
        clear H
        go_upto_block 0 with (fail)
        go_cut [8] (fun v8 wc => ∃ (kq : Nat) (x8_12 : Int), v8 = .int .i64 x8_12 ∧ Aside0 (spec_PartsFor.j2 kq l0 a1 a2 y491 x8_12 0 = some r) ∧ Aside0 (kq ≤ kj3) ∧ Aside0 (Kd.R (Kd.int .i64) 3 wc w.heap.size (fun _ => True) v492 y491) ∧ Aside0 (Below w.heap.size w wc))
        case first =>
          have H := HC13.out
          clear HC13
          have H' := Aside0.mk H
          clear H
          go_wp2
          go_loopg [8] kj3 (fun kq v8 w' => ∃ (x8_2 : Int), v8 = .int .i64 x8_2 ∧ Aside0 (spec_PartsFor.l0 kq l0 a1 a2 y491 x8_2 0 = some r) ∧ Aside0 (kq ≤ kj3) ∧ Aside0 (Kd.R (Kd.int .i64) 3 w' w.heap.size (fun _ => True) v492 y491) ∧ Aside0 (Below w.heap.size w w'))
          case atStart => exact ⟨(0), (by first | rfl | (simp; done) | (simp [*]; done)), H', ⟨Nat.le_refl _⟩, ⟨by (with_reducible repeat (first | apply Kd.R_alloc | apply Kd.R_drewN | apply Kd.R_drew)); exact HO_7.out⟩, ⟨by repeat (first | (with_reducible first | exact HB.out | apply below_alloc | apply pw_below_drewN | apply below_drew1) | exact HB.out)⟩⟩
          case round =>
            clear H'
            try clear c1
            try clear p2
            try clear c3
            try clear c8
            try clear c10
            try clear c12
            try clear p2
            obtain ⟨x8_2, rfl, HA, HK2, HO_7, HB⟩ := hrel
            cases gk with
            | zero => exact absurd HA.out (by simp [spec_PartsFor.l0])
            | succ k2 =>
              have H := HA.out
              clear HA
              simp only [spec_PartsFor.l0] at H
              by_cases c14 : x8_2 < (l0.length : Int)
              · rw [if_pos c14] at H
                have c14b0 : decide (x8_2 < (l0.length : Int)) = true := decide_eq_true c14
                clear c14
                (first | rw [c14b0] | (simp only [i64_w, i32_w]; rw [c14b0]) | skip)
                by_cases c15 : 0 ≤ x8_2
                · rw [if_pos c15] at H
                  have c15b0 : decide (0 ≤ x8_2) = true := decide_eq_true c15
                  clear c15
                  by_cases c16 : (rd l0 x8_2) ≤ a2
                  · rw [if_pos c16] at H
                    have c16b0 : decide ((rd l0 x8_2) ≤ a2) = true := decide_eq_true c16
                    clear c16
                    have H' := Aside0.mk H
                    clear H
                    have p497 : 0 ≤ (x8_2 : Int) := of_decide_eq_true (by first | (with_reducible assumption) | assumption)
                    have q497 : x8_2 < (l0.length : Int) := of_decide_eq_true (by first | (with_reducible assumption) | assumption)
                    obtain ⟨ad497, e497, hx497_0⟩ := Kd.at_int HR0.out x8_2 p497 q497
                    cases e497
                    replace hx497_0 := (HB.out.cell (World.block_lt_of_cell? w _ hx497_0)).trans hx497_0
                    replace p497 := eq_true p497
                    replace q497 := eq_true q497
                    go_wp2
                    go_roundg k2
                    case measure => have := HJ3.out; have := HK2.out; omega
                    case rel => exact ⟨(wrap64 (x8_2 + 1)), (by first | rfl | (simp; done) | (simp [*]; done)), H', ⟨by have := HJ3.out; have := HK2.out; omega⟩, ⟨by (with_reducible repeat (first | apply Kd.R_alloc | apply Kd.R_drewN | apply Kd.R_drew)); exact HO_7.out⟩, ⟨by repeat (first | (with_reducible first | exact HB.out | apply below_alloc | apply pw_below_drewN | apply below_drew1) | exact HB.out)⟩⟩
                  · rw [if_neg c16] at H
                    have c16b0 : decide ((rd l0 x8_2) ≤ a2) = false := decide_eq_false c16
                    clear c16
                    have H' := Aside0.mk H
                    clear H
                    have p497 : 0 ≤ (x8_2 : Int) := of_decide_eq_true (by first | (with_reducible assumption) | assumption)
                    have q497 : x8_2 < (l0.length : Int) := of_decide_eq_true (by first | (with_reducible assumption) | assumption)
                    obtain ⟨ad497, e497, hx497_0⟩ := Kd.at_int HR0.out x8_2 p497 q497
                    cases e497
                    replace hx497_0 := (HB.out.cell (World.block_lt_of_cell? w _ hx497_0)).trans hx497_0
                    replace p497 := eq_true p497
                    replace q497 := eq_true q497
                    go_wp2
                    go_meet
                    case rel => exact ⟨_, (x8_2), (by first | rfl | (simp; done) | (simp [*]; done)), H', ⟨by have := HJ3.out; have := HK2.out; first | omega | exact Nat.le_refl _⟩, ⟨by (with_reducible repeat (first | apply Kd.R_alloc | apply Kd.R_drewN | apply Kd.R_drew)); exact HO_7.out⟩, ⟨by repeat (first | (with_reducible first | exact HB.out | apply below_alloc | apply pw_below_drewN | apply below_drew1) | exact HB.out)⟩⟩
                · rw [if_neg c15] at H
                  exact absurd H (by simp)
              · rw [if_neg c14] at H
                have c14b0 : decide (x8_2 < (l0.length : Int)) = false := decide_eq_false c14
                clear c14
                (first | rw [c14b0] | (simp only [i64_w, i32_w]; rw [c14b0]) | skip)
                have H' := Aside0.mk H
                clear H
                go_wp2
                go_meet
                case rel => exact ⟨_, (x8_2), (by first | rfl | (simp; done) | (simp [*]; done)), H', ⟨by have := HJ3.out; have := HK2.out; first | omega | exact Nat.le_refl _⟩, ⟨by (with_reducible repeat (first | apply Kd.R_alloc | apply Kd.R_drewN | apply Kd.R_drew)); exact HO_7.out⟩, ⟨by repeat (first | (with_reducible first | exact HB.out | apply below_alloc | apply pw_below_drewN | apply below_drew1) | exact HB.out)⟩⟩
        case rest =>
          clear HC13
          try clear c1
          try clear p2
          try clear c3
          try clear p4
          try clear q4
          try clear hx4
          try clear p6
          try clear c8
          try clear c10
          try clear c12
          try clear c14
          try clear c14b0
          try clear c15
          try clear c15b0
          try clear c16
          try clear c16b0
          try clear hx497_0
          try clear p2
          try clear p497
          try clear q497
          obtain ⟨kq, x8_12, rfl, HA, HJ12, HO_7, HB⟩ := hcut
          cases kq with
          | zero => exact absurd HA.out (by simp [spec_PartsFor.j2])
          | succ kj12 =>
            have H := HA.out
            clear HA
            simp only [spec_PartsFor.j2] at H
            have HC17 := Aside0.mk H
            clear H
            go_upto_block 2 with (fail)
            go_cut [9] (fun v9 wc => ∃ (kq : Nat) (x9_16 : Int), v9 = .int .i64 x9_16 ∧ Aside0 (spec_PartsFor.j4 kq l0 a1 y491 x8_12 x9_16 = some r) ∧ Aside0 (kq ≤ kj12) ∧ Aside0 (Kd.R (Kd.int .i64) 3 wc w.heap.size (fun _ => True) v492 y491) ∧ Aside0 (Below w.heap.size w wc))
            case first =>
              have H := HC17.out
              clear HC17
              have H' := Aside0.mk H
              clear H
              go_wp2
              go_loopg [9] kj12 (fun kq v9 w' => ∃ (x9_3 : Int), v9 = .int .i64 x9_3 ∧ Aside0 (spec_PartsFor.l1 kq l0 a1 a2 y491 x8_12 x9_3 = some r) ∧ Aside0 (kq ≤ kj12) ∧ Aside0 (Kd.R (Kd.int .i64) 3 w' w.heap.size (fun _ => True) v492 y491) ∧ Aside0 (Below w.heap.size w w'))
              case atStart => exact ⟨(0), (by first | rfl | (simp; done) | (simp [*]; done)), H', ⟨Nat.le_refl _⟩, ⟨by (with_reducible repeat (first | apply Kd.R_alloc | apply Kd.R_drewN | apply Kd.R_drew)); exact HO_7.out⟩, ⟨by repeat (first | (with_reducible first | exact HB.out | apply below_alloc | apply pw_below_drewN | apply below_drew1) | exact HB.out)⟩⟩
              case round =>
                clear H'
                try clear c1
                try clear p2
                try clear c3
                try clear p4
                try clear q4
                try clear hx4
                try clear p6
                try clear c8
                try clear c10
                try clear c12
                try clear c14
                try clear c14b0
                try clear c15
                try clear c15b0
                try clear c16
                try clear c16b0
                try clear hx497_0
                try clear p2
                try clear p4
                try clear p497
                try clear p6
                try clear q4
                try clear q497
                obtain ⟨x9_3, rfl, HA, HK3, HO_7, HB⟩ := hrel
                cases gk with
                | zero => exact absurd HA.out (by simp [spec_PartsFor.l1])
                | succ k3 =>
                  have H := HA.out
                  clear HA
                  simp only [spec_PartsFor.l1] at H
                  by_cases c18 : x9_3 < (l0.length : Int)
                  · rw [if_pos c18] at H
                    have c18b0 : decide (x9_3 < (l0.length : Int)) = true := decide_eq_true c18
                    clear c18
                    (first | rw [c18b0] | (simp only [i64_w, i32_w]; rw [c18b0]) | skip)
                    by_cases c19 : 0 ≤ x9_3
                    · rw [if_pos c19] at H
                      have c19b0 : decide (0 ≤ x9_3) = true := decide_eq_true c19
                      clear c19
                      by_cases c20 : (rd l0 x9_3) < a2
                      · rw [if_pos c20] at H
                        have c20b0 : decide ((rd l0 x9_3) < a2) = true := decide_eq_true c20
                        clear c20
                        have H' := Aside0.mk H
                        clear H
                        have p498 : 0 ≤ (x9_3 : Int) := of_decide_eq_true (by first | (with_reducible assumption) | assumption)
                        have q498 : x9_3 < (l0.length : Int) := of_decide_eq_true (by first | (with_reducible assumption) | assumption)
                        obtain ⟨ad498, e498, hx498_0⟩ := Kd.at_int HR0.out x9_3 p498 q498
                        cases e498
                        replace hx498_0 := (HB.out.cell (World.block_lt_of_cell? w _ hx498_0)).trans hx498_0
                        replace p498 := eq_true p498
                        replace q498 := eq_true q498
                        go_wp2
                        go_roundg k3
                        case measure => have := HJ3.out; have := HJ12.out; have := HK3.out; omega
                        case rel => exact ⟨(wrap64 (x9_3 + 1)), (by first | rfl | (simp; done) | (simp [*]; done)), H', ⟨by have := HJ3.out; have := HJ12.out; have := HK3.out; omega⟩, ⟨by (with_reducible repeat (first | apply Kd.R_alloc | apply Kd.R_drewN | apply Kd.R_drew)); exact HO_7.out⟩, ⟨by repeat (first | (with_reducible first | exact HB.out | apply below_alloc | apply pw_below_drewN | apply below_drew1) | exact HB.out)⟩⟩
                      · rw [if_neg c20] at H
                        have c20b0 : decide ((rd l0 x9_3) < a2) = false := decide_eq_false c20
                        clear c20
                        have H' := Aside0.mk H
                        clear H
                        have p498 : 0 ≤ (x9_3 : Int) := of_decide_eq_true (by first | (with_reducible assumption) | assumption)
                        have q498 : x9_3 < (l0.length : Int) := of_decide_eq_true (by first | (with_reducible assumption) | assumption)
                        obtain ⟨ad498, e498, hx498_0⟩ := Kd.at_int HR0.out x9_3 p498 q498
                        cases e498
                        replace hx498_0 := (HB.out.cell (World.block_lt_of_cell? w _ hx498_0)).trans hx498_0
                        replace p498 := eq_true p498
                        replace q498 := eq_true q498
                        go_wp2
                        go_meet
                        case rel => exact ⟨_, (x9_3), (by first | rfl | (simp; done) | (simp [*]; done)), H', ⟨by have := HJ3.out; have := HJ12.out; have := HK3.out; first | omega | exact Nat.le_refl _⟩, ⟨by (with_reducible repeat (first | apply Kd.R_alloc | apply Kd.R_drewN | apply Kd.R_drew)); exact HO_7.out⟩, ⟨by repeat (first | (with_reducible first | exact HB.out | apply below_alloc | apply pw_below_drewN | apply below_drew1) | exact HB.out)⟩⟩
                    · rw [if_neg c19] at H
                      exact absurd H (by simp)
                  · rw [if_neg c18] at H
                    have c18b0 : decide (x9_3 < (l0.length : Int)) = false := decide_eq_false c18
                    clear c18
                    (first | rw [c18b0] | (simp only [i64_w, i32_w]; rw [c18b0]) | skip)
                    have H' := Aside0.mk H
                    clear H
                    go_wp2
                    go_meet
                    case rel => exact ⟨_, (x9_3), (by first | rfl | (simp; done) | (simp [*]; done)), H', ⟨by have := HJ3.out; have := HJ12.out; have := HK3.out; first | omega | exact Nat.le_refl _⟩, ⟨by (with_reducible repeat (first | apply Kd.R_alloc | apply Kd.R_drewN | apply Kd.R_drew)); exact HO_7.out⟩, ⟨by repeat (first | (with_reducible first | exact HB.out | apply below_alloc | apply pw_below_drewN | apply below_drew1) | exact HB.out)⟩⟩
            case rest =>
              clear HC17
              try clear c1
              try clear c2
              try clear p2
              try clear c3
              try clear p4
              try clear q4
              try clear hx4
              try clear p6
              try clear c8
              try clear c10
              try clear c12
              try clear c14
              try clear c14b0
              try clear c15
              try clear c15b0
              try clear c16
              try clear c16b0
              try clear c18
              try clear c18b0
              try clear c19
              try clear c19b0
              try clear c20
              try clear c20b0
              try clear hx497_0
              try clear hx498_0
              try clear p2
              try clear p4
              try clear p497
              try clear p498
              try clear p6
              try clear q4
              try clear q497
              try clear q498
              obtain ⟨kq, x9_16, rfl, HA, HJ16, HO_7, HB⟩ := hcut
              cases kq with
              | zero => exact absurd HA.out (by simp [spec_PartsFor.j4])
              | succ kj16 =>
                have H := HA.out
                clear HA
                simp only [spec_PartsFor.j4] at H
                have H' := Aside0.mk H
                clear H
                go_wp2
                go_loopg [7, 10] kj16 (fun kq v7 v10 w' => ∃ (x7_4 : List Int) (x10_4 : Int), v10 = .int .i64 x10_4 ∧ Aside0 (spec_PartsFor.l2 kq l0 a1 x7_4 x8_12 x9_16 x10_4 = some r) ∧ Aside0 (kq ≤ kj16) ∧ Aside0 (Kd.R (Kd.int .i64) 3 w' w.heap.size (fun _ => True) v7 x7_4) ∧ Aside0 (Below w.heap.size w w'))
                case atStart => exact ⟨(y491), (0), (by first | rfl | (simp; done) | (simp [*]; done)), H', ⟨Nat.le_refl _⟩, ⟨by (with_reducible repeat (first | apply Kd.R_alloc | apply Kd.R_drewN | apply Kd.R_drew)); exact HO_7.out⟩, ⟨by repeat (first | (with_reducible first | exact HB.out | apply below_alloc | apply pw_below_drewN | apply below_drew1) | exact HB.out)⟩⟩
                case round =>
                  clear H'
                  try clear c1
                  try clear c2
                  try clear p2
                  try clear c3
                  try clear p4
                  try clear q4
                  try clear hx4
                  try clear p6
                  try clear c8
                  try clear c10
                  try clear c12
                  try clear c14
                  try clear c14b0
                  try clear c15
                  try clear c15b0
                  try clear c16
                  try clear c16b0
                  try clear c18
                  try clear c18b0
                  try clear c19
                  try clear c19b0
                  try clear c20
                  try clear c20b0
                  try clear hx497_0
                  try clear hx498_0
                  try clear p2
                  try clear p4
                  try clear p497
                  try clear p498
                  try clear p6
                  try clear q4
                  try clear q497
                  try clear q498
                  obtain ⟨x7_4, x10_4, rfl, HA, HK4, HO_7, HB⟩ := hrel
                  cases gk with
                  | zero => exact absurd HA.out (by simp [spec_PartsFor.l2])
                  | succ k4 =>
                    have H := HA.out
                    clear HA
                    simp only [spec_PartsFor.l2] at H
                    by_cases c21 : x10_4 ≤ (l0.length : Int)
                    · rw [if_pos c21] at H
                      have c21b0 : decide (x10_4 ≤ (l0.length : Int)) = true := decide_eq_true c21
                      clear c21
                      by_cases c22 : a1 = 2
                      · rw [if_pos c22] at H
                        have c22b0 : (a1 == 2) = true := beq_iff_eq.mpr c22
                        have c22b1 : (a1 != 2) = false := bne_eq_false_iff_eq.mpr c22
                        clear c22
                        by_cases c23 : x7_4.length < 17592186044416
                        · rw [if_pos c23] at H
                          have LMc23 := Aside0.mk c23
                          clear c23
                          obtain ⟨y499, hy499⟩ : ∃ y_ : List Int, y_ = (x7_4 ++ [x10_4]) := ⟨_, rfl⟩
                          replace H : (spec_PartsFor.l2 k4 l0 a1 y499 x8_12 x9_16 (wrap64 (x10_4 + 1))) = some r := by first | (rw [hy499]; with_reducible exact H) | (have H2_ := (Option.bind_some _ _).symm.trans H; rw [hy499]; with_reducible exact H2_) | (have H2_ := (Option.bind_some _ _).symm.trans H; with_reducible exact H2_) | with_reducible exact H | (rw [hy499]; exact H) | exact H
                          have Ny499 := Aside0.mk hy499
                          clear hy499
                          have H' := Aside0.mk H
                          clear H
                          go_wp2_with (first | ((with_reducible refine gate_builtin (b := .append) (xs := #[.tmp 89, .tmp 91]) rfl ?_); at_builtin; refine Kd.R_append (Kd.int .i64) (w0 := w) w.heap.size rfl (.tmp 89) (.tmp 91) 22 3 (.int .i64 0) 8 rfl Try.underlying22 info3 rfl (by decide) (by omega) u7 x7_4 x10_4 [.int .i64 x10_4] (fun _ => True) (fun _ => False) rfl rfl ?aP (fun _ hk => hk.elim) ?aF ?aO ?aB ?aS ?aL ?_; (case aP => exact rfl); (case aB => exact (by repeat (first | (with_reducible first | exact HB.out | apply below_alloc | apply pw_below_drewN | apply below_drew1) | exact HB.out))); (case aF => exact (fun _ _ => trivial)); (case aO => exact (by (with_reducible repeat (first | apply Kd.R_alloc | apply Kd.R_drewN | apply Kd.R_drew)); exact HO_7.out)); (case aS => exact (below_size (by repeat (first | (with_reducible first | exact HB.out | apply below_alloc | apply pw_below_drewN | apply below_drew1) | exact HB.out)))); (case aL => have := LMc23.out; omega); intro v500 w24 ho hb hg hat; rw [← Ny499.out] at ho; have n0_ := Aside0.mk (hb); have n1_ := Aside0.mk (ho); clear HB; clear HO_7; have HB := n0_; have HO501 := n1_; clear n0_ n1_; clear ho hb hg hat))
                          go_roundg k4
                          case measure => have := HJ3.out; have := HJ12.out; have := HJ16.out; have := HK4.out; omega
                          case rel => exact ⟨(y499), (wrap64 (x10_4 + 1)), (by first | rfl | (simp; done) | (simp [*]; done)), H', ⟨by have := HJ3.out; have := HJ12.out; have := HJ16.out; have := HK4.out; omega⟩, ⟨by (with_reducible repeat (first | apply Kd.R_alloc | apply Kd.R_drewN | apply Kd.R_drew)); exact HO501.out⟩, ⟨by repeat (first | (with_reducible first | exact HB.out | apply below_alloc | apply pw_below_drewN | apply below_drew1) | exact HB.out)⟩⟩
                        · rw [if_neg c23] at H
                          exact absurd H (by simp)
                      · rw [if_neg c22] at H
                        have c22b0 : (a1 == 2) = false := beq_eq_false_iff_ne.mpr c22
                        have c22b1 : (a1 != 2) = true := bne_iff_ne.mpr c22
                        by_cases c25 : a1 = 1
                        · rw [if_pos c25] at H
                          have c25b0 : (a1 == 1) = true := beq_iff_eq.mpr c25
                          have c25b1 : (a1 != 1) = false := bne_eq_false_iff_eq.mpr c25
                          clear c25
                          by_cases c26 : x10_4 = x8_12
                          · rw [if_pos c26] at H
                            have c26b0 : (x10_4 == x8_12) = true := beq_iff_eq.mpr c26
                            have c26b1 : (x10_4 != x8_12) = false := bne_eq_false_iff_eq.mpr c26
                            clear c26
                            by_cases c27 : x7_4.length < 17592186044416
                            · rw [if_pos c27] at H
                              have LMc27 := Aside0.mk c27
                              clear c27
                              obtain ⟨y502, hy502⟩ : ∃ y_ : List Int, y_ = (x7_4 ++ [x10_4]) := ⟨_, rfl⟩
                              replace H : (spec_PartsFor.l2 k4 l0 a1 y502 x8_12 x9_16 (wrap64 (x10_4 + 1))) = some r := by first | (rw [hy502]; with_reducible exact H) | (have H2_ := (Option.bind_some _ _).symm.trans H; rw [hy502]; with_reducible exact H2_) | (have H2_ := (Option.bind_some _ _).symm.trans H; with_reducible exact H2_) | with_reducible exact H | (rw [hy502]; exact H) | exact H
                              have Ny502 := Aside0.mk hy502
                              clear hy502
                              have H' := Aside0.mk H
                              clear H
                              go_wp2_with (first | ((with_reducible refine gate_builtin (b := .append) (xs := #[.tmp 89, .tmp 91]) rfl ?_); at_builtin; refine Kd.R_append (Kd.int .i64) (w0 := w) w.heap.size rfl (.tmp 89) (.tmp 91) 22 3 (.int .i64 0) 8 rfl Try.underlying22 info3 rfl (by decide) (by omega) u7 x7_4 x10_4 [.int .i64 x10_4] (fun _ => True) (fun _ => False) rfl rfl ?aP (fun _ hk => hk.elim) ?aF ?aO ?aB ?aS ?aL ?_; (case aP => exact rfl); (case aB => exact (by repeat (first | (with_reducible first | exact HB.out | apply below_alloc | apply pw_below_drewN | apply below_drew1) | exact HB.out))); (case aF => exact (fun _ _ => trivial)); (case aO => exact (by (with_reducible repeat (first | apply Kd.R_alloc | apply Kd.R_drewN | apply Kd.R_drew)); exact HO_7.out)); (case aS => exact (below_size (by repeat (first | (with_reducible first | exact HB.out | apply below_alloc | apply pw_below_drewN | apply below_drew1) | exact HB.out)))); (case aL => have := LMc27.out; omega); intro v503 w28 ho hb hg hat; rw [← Ny502.out] at ho; have n0_ := Aside0.mk (hb); have n1_ := Aside0.mk (ho); clear HB; clear HO_7; have HB := n0_; have HO504 := n1_; clear n0_ n1_; clear ho hb hg hat))
                              go_roundg k4
                              case measure => have := HJ3.out; have := HJ12.out; have := HJ16.out; have := HK4.out; omega
                              case rel => exact ⟨(y502), (wrap64 (x10_4 + 1)), (by first | rfl | (simp; done) | (simp [*]; done)), H', ⟨by have := HJ3.out; have := HJ12.out; have := HJ16.out; have := HK4.out; omega⟩, ⟨by (with_reducible repeat (first | apply Kd.R_alloc | apply Kd.R_drewN | apply Kd.R_drew)); exact HO504.out⟩, ⟨by repeat (first | (with_reducible first | exact HB.out | apply below_alloc | apply pw_below_drewN | apply below_drew1) | exact HB.out)⟩⟩
                            · rw [if_neg c27] at H
                              exact absurd H (by simp)
                          · rw [if_neg c26] at H
                            have c26b0 : (x10_4 == x8_12) = false := beq_eq_false_iff_ne.mpr c26
                            have c26b1 : (x10_4 != x8_12) = true := bne_iff_ne.mpr c26
                            by_cases c29 : a1 = 3
                            · rw [if_pos c29] at H
                              have c29b0 : (a1 == 3) = true := beq_iff_eq.mpr c29
                              have c29b1 : (a1 != 3) = false := bne_eq_false_iff_eq.mpr c29
                              clear c29
                              by_cases c30 : x10_4 ≤ x9_16
                              · rw [if_pos c30] at H
                                have c30b0 : decide (x10_4 ≤ x9_16) = true := decide_eq_true c30
                                clear c30
                                by_cases c31 : x7_4.length < 17592186044416
                                · rw [if_pos c31] at H
                                  have LMc31 := Aside0.mk c31
                                  clear c31
                                  obtain ⟨y505, hy505⟩ : ∃ y_ : List Int, y_ = (x7_4 ++ [x10_4]) := ⟨_, rfl⟩
                                  replace H : (spec_PartsFor.l2 k4 l0 a1 y505 x8_12 x9_16 (wrap64 (x10_4 + 1))) = some r := by first | (rw [hy505]; with_reducible exact H) | (have H2_ := (Option.bind_some _ _).symm.trans H; rw [hy505]; with_reducible exact H2_) | (have H2_ := (Option.bind_some _ _).symm.trans H; with_reducible exact H2_) | with_reducible exact H | (rw [hy505]; exact H) | exact H
                                  have Ny505 := Aside0.mk hy505
                                  clear hy505
                                  have H' := Aside0.mk H
                                  clear H
                                  go_wp2_with (first | ((with_reducible refine gate_builtin (b := .append) (xs := #[.tmp 89, .tmp 91]) rfl ?_); at_builtin; refine Kd.R_append (Kd.int .i64) (w0 := w) w.heap.size rfl (.tmp 89) (.tmp 91) 22 3 (.int .i64 0) 8 rfl Try.underlying22 info3 rfl (by decide) (by omega) u7 x7_4 x10_4 [.int .i64 x10_4] (fun _ => True) (fun _ => False) rfl rfl ?aP (fun _ hk => hk.elim) ?aF ?aO ?aB ?aS ?aL ?_; (case aP => exact rfl); (case aB => exact (by repeat (first | (with_reducible first | exact HB.out | apply below_alloc | apply pw_below_drewN | apply below_drew1) | exact HB.out))); (case aF => exact (fun _ _ => trivial)); (case aO => exact (by (with_reducible repeat (first | apply Kd.R_alloc | apply Kd.R_drewN | apply Kd.R_drew)); exact HO_7.out)); (case aS => exact (below_size (by repeat (first | (with_reducible first | exact HB.out | apply below_alloc | apply pw_below_drewN | apply below_drew1) | exact HB.out)))); (case aL => have := LMc31.out; omega); intro v506 w32 ho hb hg hat; rw [← Ny505.out] at ho; have n0_ := Aside0.mk (hb); have n1_ := Aside0.mk (ho); clear HB; clear HO_7; have HB := n0_; have HO507 := n1_; clear n0_ n1_; clear ho hb hg hat))
                                  go_roundg k4
                                  case measure => have := HJ3.out; have := HJ12.out; have := HJ16.out; have := HK4.out; omega
                                  case rel => exact ⟨(y505), (wrap64 (x10_4 + 1)), (by first | rfl | (simp; done) | (simp [*]; done)), H', ⟨by have := HJ3.out; have := HJ12.out; have := HJ16.out; have := HK4.out; omega⟩, ⟨by (with_reducible repeat (first | apply Kd.R_alloc | apply Kd.R_drewN | apply Kd.R_drew)); exact HO507.out⟩, ⟨by repeat (first | (with_reducible first | exact HB.out | apply below_alloc | apply pw_below_drewN | apply below_drew1) | exact HB.out)⟩⟩
                                · rw [if_neg c31] at H
                                  exact absurd H (by simp)
                              · rw [if_neg c30] at H
                                have c30b0 : decide (x10_4 ≤ x9_16) = false := decide_eq_false c30
                                clear c30
                                by_cases c33 : a1 = 4
                                · rw [if_pos c33] at H
                                  have c33b0 : (a1 == 4) = true := beq_iff_eq.mpr c33
                                  have c33b1 : (a1 != 4) = false := bne_eq_false_iff_eq.mpr c33
                                  clear c33
                                  by_cases c34 : x10_4 ≤ x8_12
                                  · rw [if_pos c34] at H
                                    have c34b0 : decide (x10_4 ≤ x8_12) = true := decide_eq_true c34
                                    clear c34
                                    by_cases c35 : x7_4.length < 17592186044416
                                    · rw [if_pos c35] at H
                                      have LMc35 := Aside0.mk c35
                                      clear c35
                                      obtain ⟨y508, hy508⟩ : ∃ y_ : List Int, y_ = (x7_4 ++ [x10_4]) := ⟨_, rfl⟩
                                      replace H : (spec_PartsFor.l2 k4 l0 a1 y508 x8_12 x9_16 (wrap64 (x10_4 + 1))) = some r := by first | (rw [hy508]; with_reducible exact H) | (have H2_ := (Option.bind_some _ _).symm.trans H; rw [hy508]; with_reducible exact H2_) | (have H2_ := (Option.bind_some _ _).symm.trans H; with_reducible exact H2_) | with_reducible exact H | (rw [hy508]; exact H) | exact H
                                      have Ny508 := Aside0.mk hy508
                                      clear hy508
                                      have H' := Aside0.mk H
                                      clear H
                                      go_wp2_with (first | ((with_reducible refine gate_builtin (b := .append) (xs := #[.tmp 89, .tmp 91]) rfl ?_); at_builtin; refine Kd.R_append (Kd.int .i64) (w0 := w) w.heap.size rfl (.tmp 89) (.tmp 91) 22 3 (.int .i64 0) 8 rfl Try.underlying22 info3 rfl (by decide) (by omega) u7 x7_4 x10_4 [.int .i64 x10_4] (fun _ => True) (fun _ => False) rfl rfl ?aP (fun _ hk => hk.elim) ?aF ?aO ?aB ?aS ?aL ?_; (case aP => exact rfl); (case aB => exact (by repeat (first | (with_reducible first | exact HB.out | apply below_alloc | apply pw_below_drewN | apply below_drew1) | exact HB.out))); (case aF => exact (fun _ _ => trivial)); (case aO => exact (by (with_reducible repeat (first | apply Kd.R_alloc | apply Kd.R_drewN | apply Kd.R_drew)); exact HO_7.out)); (case aS => exact (below_size (by repeat (first | (with_reducible first | exact HB.out | apply below_alloc | apply pw_below_drewN | apply below_drew1) | exact HB.out)))); (case aL => have := LMc35.out; omega); intro v509 w36 ho hb hg hat; rw [← Ny508.out] at ho; have n0_ := Aside0.mk (hb); have n1_ := Aside0.mk (ho); clear HB; clear HO_7; have HB := n0_; have HO510 := n1_; clear n0_ n1_; clear ho hb hg hat))
                                      go_roundg k4
                                      case measure => have := HJ3.out; have := HJ12.out; have := HJ16.out; have := HK4.out; omega
                                      case rel => exact ⟨(y508), (wrap64 (x10_4 + 1)), (by first | rfl | (simp; done) | (simp [*]; done)), H', ⟨by have := HJ3.out; have := HJ12.out; have := HJ16.out; have := HK4.out; omega⟩, ⟨by (with_reducible repeat (first | apply Kd.R_alloc | apply Kd.R_drewN | apply Kd.R_drew)); exact HO510.out⟩, ⟨by repeat (first | (with_reducible first | exact HB.out | apply below_alloc | apply pw_below_drewN | apply below_drew1) | exact HB.out)⟩⟩
                                    · rw [if_neg c35] at H
                                      exact absurd H (by simp)
                                  · rw [if_neg c34] at H
                                    have c34b0 : decide (x10_4 ≤ x8_12) = false := decide_eq_false c34
                                    clear c34
                                    have H' := Aside0.mk H
                                    clear H
                                    go_wp2
                                    go_roundg k4
                                    case measure => have := HJ3.out; have := HJ12.out; have := HJ16.out; have := HK4.out; omega
                                    case rel => exact ⟨(x7_4), (wrap64 (x10_4 + 1)), (by first | rfl | (simp; done) | (simp [*]; done)), H', ⟨by have := HJ3.out; have := HJ12.out; have := HJ16.out; have := HK4.out; omega⟩, ⟨by (with_reducible repeat (first | apply Kd.R_alloc | apply Kd.R_drewN | apply Kd.R_drew)); exact HO_7.out⟩, ⟨by repeat (first | (with_reducible first | exact HB.out | apply below_alloc | apply pw_below_drewN | apply below_drew1) | exact HB.out)⟩⟩
                                · rw [if_neg c33] at H
                                  have c33b0 : (a1 == 4) = false := beq_eq_false_iff_ne.mpr c33
                                  have c33b1 : (a1 != 4) = true := bne_iff_ne.mpr c33
                                  have H' := Aside0.mk H
                                  clear H
                                  go_wp2
                                  go_roundg k4
                                  case measure => have := HJ3.out; have := HJ12.out; have := HJ16.out; have := HK4.out; omega
                                  case rel => exact ⟨(x7_4), (wrap64 (x10_4 + 1)), (by first | rfl | (simp; done) | (simp [*]; done)), H', ⟨by have := HJ3.out; have := HJ12.out; have := HJ16.out; have := HK4.out; omega⟩, ⟨by (with_reducible repeat (first | apply Kd.R_alloc | apply Kd.R_drewN | apply Kd.R_drew)); exact HO_7.out⟩, ⟨by repeat (first | (with_reducible first | exact HB.out | apply below_alloc | apply pw_below_drewN | apply below_drew1) | exact HB.out)⟩⟩
                            · rw [if_neg c29] at H
                              have c29b0 : (a1 == 3) = false := beq_eq_false_iff_ne.mpr c29
                              have c29b1 : (a1 != 3) = true := bne_iff_ne.mpr c29
                              by_cases c37 : a1 = 4
                              · rw [if_pos c37] at H
                                have c37b0 : (a1 == 4) = true := beq_iff_eq.mpr c37
                                have c37b1 : (a1 != 4) = false := bne_eq_false_iff_eq.mpr c37
                                clear c37
                                by_cases c38 : x10_4 ≤ x8_12
                                · rw [if_pos c38] at H
                                  have c38b0 : decide (x10_4 ≤ x8_12) = true := decide_eq_true c38
                                  clear c38
                                  by_cases c39 : x7_4.length < 17592186044416
                                  · rw [if_pos c39] at H
                                    have LMc39 := Aside0.mk c39
                                    clear c39
                                    obtain ⟨y511, hy511⟩ : ∃ y_ : List Int, y_ = (x7_4 ++ [x10_4]) := ⟨_, rfl⟩
                                    replace H : (spec_PartsFor.l2 k4 l0 a1 y511 x8_12 x9_16 (wrap64 (x10_4 + 1))) = some r := by first | (rw [hy511]; with_reducible exact H) | (have H2_ := (Option.bind_some _ _).symm.trans H; rw [hy511]; with_reducible exact H2_) | (have H2_ := (Option.bind_some _ _).symm.trans H; with_reducible exact H2_) | with_reducible exact H | (rw [hy511]; exact H) | exact H
                                    have Ny511 := Aside0.mk hy511
                                    clear hy511
                                    have H' := Aside0.mk H
                                    clear H
                                    go_wp2_with (first | ((with_reducible refine gate_builtin (b := .append) (xs := #[.tmp 89, .tmp 91]) rfl ?_); at_builtin; refine Kd.R_append (Kd.int .i64) (w0 := w) w.heap.size rfl (.tmp 89) (.tmp 91) 22 3 (.int .i64 0) 8 rfl Try.underlying22 info3 rfl (by decide) (by omega) u7 x7_4 x10_4 [.int .i64 x10_4] (fun _ => True) (fun _ => False) rfl rfl ?aP (fun _ hk => hk.elim) ?aF ?aO ?aB ?aS ?aL ?_; (case aP => exact rfl); (case aB => exact (by repeat (first | (with_reducible first | exact HB.out | apply below_alloc | apply pw_below_drewN | apply below_drew1) | exact HB.out))); (case aF => exact (fun _ _ => trivial)); (case aO => exact (by (with_reducible repeat (first | apply Kd.R_alloc | apply Kd.R_drewN | apply Kd.R_drew)); exact HO_7.out)); (case aS => exact (below_size (by repeat (first | (with_reducible first | exact HB.out | apply below_alloc | apply pw_below_drewN | apply below_drew1) | exact HB.out)))); (case aL => have := LMc39.out; omega); intro v512 w40 ho hb hg hat; rw [← Ny511.out] at ho; have n0_ := Aside0.mk (hb); have n1_ := Aside0.mk (ho); clear HB; clear HO_7; have HB := n0_; have HO513 := n1_; clear n0_ n1_; clear ho hb hg hat))
                                    go_roundg k4
                                    case measure => have := HJ3.out; have := HJ12.out; have := HJ16.out; have := HK4.out; omega
                                    case rel => exact ⟨(y511), (wrap64 (x10_4 + 1)), (by first | rfl | (simp; done) | (simp [*]; done)), H', ⟨by have := HJ3.out; have := HJ12.out; have := HJ16.out; have := HK4.out; omega⟩, ⟨by (with_reducible repeat (first | apply Kd.R_alloc | apply Kd.R_drewN | apply Kd.R_drew)); exact HO513.out⟩, ⟨by repeat (first | (with_reducible first | exact HB.out | apply below_alloc | apply pw_below_drewN | apply below_drew1) | exact HB.out)⟩⟩
                                  · rw [if_neg c39] at H
                                    exact absurd H (by simp)
                                · rw [if_neg c38] at H
                                  have c38b0 : decide (x10_4 ≤ x8_12) = false := decide_eq_false c38
                                  clear c38
                                  have H' := Aside0.mk H
                                  clear H
                                  go_wp2
                                  go_roundg k4
                                  case measure => have := HJ3.out; have := HJ12.out; have := HJ16.out; have := HK4.out; omega
                                  case rel => exact ⟨(x7_4), (wrap64 (x10_4 + 1)), (by first | rfl | (simp; done) | (simp [*]; done)), H', ⟨by have := HJ3.out; have := HJ12.out; have := HJ16.out; have := HK4.out; omega⟩, ⟨by (with_reducible repeat (first | apply Kd.R_alloc | apply Kd.R_drewN | apply Kd.R_drew)); exact HO_7.out⟩, ⟨by repeat (first | (with_reducible first | exact HB.out | apply below_alloc | apply pw_below_drewN | apply below_drew1) | exact HB.out)⟩⟩
                              · rw [if_neg c37] at H
                                have c37b0 : (a1 == 4) = false := beq_eq_false_iff_ne.mpr c37
                                have c37b1 : (a1 != 4) = true := bne_iff_ne.mpr c37
                                have H' := Aside0.mk H
                                clear H
                                go_wp2
                                go_roundg k4
                                case measure => have := HJ3.out; have := HJ12.out; have := HJ16.out; have := HK4.out; omega
                                case rel => exact ⟨(x7_4), (wrap64 (x10_4 + 1)), (by first | rfl | (simp; done) | (simp [*]; done)), H', ⟨by have := HJ3.out; have := HJ12.out; have := HJ16.out; have := HK4.out; omega⟩, ⟨by (with_reducible repeat (first | apply Kd.R_alloc | apply Kd.R_drewN | apply Kd.R_drew)); exact HO_7.out⟩, ⟨by repeat (first | (with_reducible first | exact HB.out | apply below_alloc | apply pw_below_drewN | apply below_drew1) | exact HB.out)⟩⟩
                        · rw [if_neg c25] at H
                          have c25b0 : (a1 == 1) = false := beq_eq_false_iff_ne.mpr c25
                          have c25b1 : (a1 != 1) = true := bne_iff_ne.mpr c25
                          by_cases c41 : a1 = 3
                          · rw [if_pos c41] at H
                            have c41b0 : (a1 == 3) = true := beq_iff_eq.mpr c41
                            have c41b1 : (a1 != 3) = false := bne_eq_false_iff_eq.mpr c41
                            clear c41
                            by_cases c42 : x10_4 ≤ x9_16
                            · rw [if_pos c42] at H
                              have c42b0 : decide (x10_4 ≤ x9_16) = true := decide_eq_true c42
                              clear c42
                              by_cases c43 : x7_4.length < 17592186044416
                              · rw [if_pos c43] at H
                                have LMc43 := Aside0.mk c43
                                clear c43
                                obtain ⟨y514, hy514⟩ : ∃ y_ : List Int, y_ = (x7_4 ++ [x10_4]) := ⟨_, rfl⟩
                                replace H : (spec_PartsFor.l2 k4 l0 a1 y514 x8_12 x9_16 (wrap64 (x10_4 + 1))) = some r := by first | (rw [hy514]; with_reducible exact H) | (have H2_ := (Option.bind_some _ _).symm.trans H; rw [hy514]; with_reducible exact H2_) | (have H2_ := (Option.bind_some _ _).symm.trans H; with_reducible exact H2_) | with_reducible exact H | (rw [hy514]; exact H) | exact H
                                have Ny514 := Aside0.mk hy514
                                clear hy514
                                have H' := Aside0.mk H
                                clear H
                                go_wp2_with (first | ((with_reducible refine gate_builtin (b := .append) (xs := #[.tmp 89, .tmp 91]) rfl ?_); at_builtin; refine Kd.R_append (Kd.int .i64) (w0 := w) w.heap.size rfl (.tmp 89) (.tmp 91) 22 3 (.int .i64 0) 8 rfl Try.underlying22 info3 rfl (by decide) (by omega) u7 x7_4 x10_4 [.int .i64 x10_4] (fun _ => True) (fun _ => False) rfl rfl ?aP (fun _ hk => hk.elim) ?aF ?aO ?aB ?aS ?aL ?_; (case aP => exact rfl); (case aB => exact (by repeat (first | (with_reducible first | exact HB.out | apply below_alloc | apply pw_below_drewN | apply below_drew1) | exact HB.out))); (case aF => exact (fun _ _ => trivial)); (case aO => exact (by (with_reducible repeat (first | apply Kd.R_alloc | apply Kd.R_drewN | apply Kd.R_drew)); exact HO_7.out)); (case aS => exact (below_size (by repeat (first | (with_reducible first | exact HB.out | apply below_alloc | apply pw_below_drewN | apply below_drew1) | exact HB.out)))); (case aL => have := LMc43.out; omega); intro v515 w44 ho hb hg hat; rw [← Ny514.out] at ho; have n0_ := Aside0.mk (hb); have n1_ := Aside0.mk (ho); clear HB; clear HO_7; have HB := n0_; have HO516 := n1_; clear n0_ n1_; clear ho hb hg hat))
                                go_roundg k4
                                case measure => have := HJ3.out; have := HJ12.out; have := HJ16.out; have := HK4.out; omega
                                case rel => exact ⟨(y514), (wrap64 (x10_4 + 1)), (by first | rfl | (simp; done) | (simp [*]; done)), H', ⟨by have := HJ3.out; have := HJ12.out; have := HJ16.out; have := HK4.out; omega⟩, ⟨by (with_reducible repeat (first | apply Kd.R_alloc | apply Kd.R_drewN | apply Kd.R_drew)); exact HO516.out⟩, ⟨by repeat (first | (with_reducible first | exact HB.out | apply below_alloc | apply pw_below_drewN | apply below_drew1) | exact HB.out)⟩⟩
                              · rw [if_neg c43] at H
                                exact absurd H (by simp)
                            · rw [if_neg c42] at H
                              have c42b0 : decide (x10_4 ≤ x9_16) = false := decide_eq_false c42
                              clear c42
                              by_cases c45 : a1 = 4
                              · rw [if_pos c45] at H
                                have c45b0 : (a1 == 4) = true := beq_iff_eq.mpr c45
                                have c45b1 : (a1 != 4) = false := bne_eq_false_iff_eq.mpr c45
                                clear c45
                                by_cases c46 : x10_4 ≤ x8_12
                                · rw [if_pos c46] at H
                                  have c46b0 : decide (x10_4 ≤ x8_12) = true := decide_eq_true c46
                                  clear c46
                                  by_cases c47 : x7_4.length < 17592186044416
                                  · rw [if_pos c47] at H
                                    have LMc47 := Aside0.mk c47
                                    clear c47
                                    obtain ⟨y517, hy517⟩ : ∃ y_ : List Int, y_ = (x7_4 ++ [x10_4]) := ⟨_, rfl⟩
                                    replace H : (spec_PartsFor.l2 k4 l0 a1 y517 x8_12 x9_16 (wrap64 (x10_4 + 1))) = some r := by first | (rw [hy517]; with_reducible exact H) | (have H2_ := (Option.bind_some _ _).symm.trans H; rw [hy517]; with_reducible exact H2_) | (have H2_ := (Option.bind_some _ _).symm.trans H; with_reducible exact H2_) | with_reducible exact H | (rw [hy517]; exact H) | exact H
                                    have Ny517 := Aside0.mk hy517
                                    clear hy517
                                    have H' := Aside0.mk H
                                    clear H
                                    go_wp2_with (first | ((with_reducible refine gate_builtin (b := .append) (xs := #[.tmp 89, .tmp 91]) rfl ?_); at_builtin; refine Kd.R_append (Kd.int .i64) (w0 := w) w.heap.size rfl (.tmp 89) (.tmp 91) 22 3 (.int .i64 0) 8 rfl Try.underlying22 info3 rfl (by decide) (by omega) u7 x7_4 x10_4 [.int .i64 x10_4] (fun _ => True) (fun _ => False) rfl rfl ?aP (fun _ hk => hk.elim) ?aF ?aO ?aB ?aS ?aL ?_; (case aP => exact rfl); (case aB => exact (by repeat (first | (with_reducible first | exact HB.out | apply below_alloc | apply pw_below_drewN | apply below_drew1) | exact HB.out))); (case aF => exact (fun _ _ => trivial)); (case aO => exact (by (with_reducible repeat (first | apply Kd.R_alloc | apply Kd.R_drewN | apply Kd.R_drew)); exact HO_7.out)); (case aS => exact (below_size (by repeat (first | (with_reducible first | exact HB.out | apply below_alloc | apply pw_below_drewN | apply below_drew1) | exact HB.out)))); (case aL => have := LMc47.out; omega); intro v518 w48 ho hb hg hat; rw [← Ny517.out] at ho; have n0_ := Aside0.mk (hb); have n1_ := Aside0.mk (ho); clear HB; clear HO_7; have HB := n0_; have HO519 := n1_; clear n0_ n1_; clear ho hb hg hat))
                                    go_roundg k4
                                    case measure => have := HJ3.out; have := HJ12.out; have := HJ16.out; have := HK4.out; omega
                                    case rel => exact ⟨(y517), (wrap64 (x10_4 + 1)), (by first | rfl | (simp; done) | (simp [*]; done)), H', ⟨by have := HJ3.out; have := HJ12.out; have := HJ16.out; have := HK4.out; omega⟩, ⟨by (with_reducible repeat (first | apply Kd.R_alloc | apply Kd.R_drewN | apply Kd.R_drew)); exact HO519.out⟩, ⟨by repeat (first | (with_reducible first | exact HB.out | apply below_alloc | apply pw_below_drewN | apply below_drew1) | exact HB.out)⟩⟩
                                  · rw [if_neg c47] at H
                                    exact absurd H (by simp)
                                · rw [if_neg c46] at H
                                  have c46b0 : decide (x10_4 ≤ x8_12) = false := decide_eq_false c46
                                  clear c46
                                  have H' := Aside0.mk H
                                  clear H
                                  go_wp2
                                  go_roundg k4
                                  case measure => have := HJ3.out; have := HJ12.out; have := HJ16.out; have := HK4.out; omega
                                  case rel => exact ⟨(x7_4), (wrap64 (x10_4 + 1)), (by first | rfl | (simp; done) | (simp [*]; done)), H', ⟨by have := HJ3.out; have := HJ12.out; have := HJ16.out; have := HK4.out; omega⟩, ⟨by (with_reducible repeat (first | apply Kd.R_alloc | apply Kd.R_drewN | apply Kd.R_drew)); exact HO_7.out⟩, ⟨by repeat (first | (with_reducible first | exact HB.out | apply below_alloc | apply pw_below_drewN | apply below_drew1) | exact HB.out)⟩⟩
                              · rw [if_neg c45] at H
                                have c45b0 : (a1 == 4) = false := beq_eq_false_iff_ne.mpr c45
                                have c45b1 : (a1 != 4) = true := bne_iff_ne.mpr c45
                                have H' := Aside0.mk H
                                clear H
                                go_wp2
                                go_roundg k4
                                case measure => have := HJ3.out; have := HJ12.out; have := HJ16.out; have := HK4.out; omega
                                case rel => exact ⟨(x7_4), (wrap64 (x10_4 + 1)), (by first | rfl | (simp; done) | (simp [*]; done)), H', ⟨by have := HJ3.out; have := HJ12.out; have := HJ16.out; have := HK4.out; omega⟩, ⟨by (with_reducible repeat (first | apply Kd.R_alloc | apply Kd.R_drewN | apply Kd.R_drew)); exact HO_7.out⟩, ⟨by repeat (first | (with_reducible first | exact HB.out | apply below_alloc | apply pw_below_drewN | apply below_drew1) | exact HB.out)⟩⟩
                          · rw [if_neg c41] at H
                            have c41b0 : (a1 == 3) = false := beq_eq_false_iff_ne.mpr c41
                            have c41b1 : (a1 != 3) = true := bne_iff_ne.mpr c41
                            by_cases c49 : a1 = 4
                            · rw [if_pos c49] at H
                              have c49b0 : (a1 == 4) = true := beq_iff_eq.mpr c49
                              have c49b1 : (a1 != 4) = false := bne_eq_false_iff_eq.mpr c49
                              clear c49
                              by_cases c50 : x10_4 ≤ x8_12
                              · rw [if_pos c50] at H
                                have c50b0 : decide (x10_4 ≤ x8_12) = true := decide_eq_true c50
                                clear c50
                                by_cases c51 : x7_4.length < 17592186044416
                                · rw [if_pos c51] at H
                                  have LMc51 := Aside0.mk c51
                                  clear c51
                                  obtain ⟨y520, hy520⟩ : ∃ y_ : List Int, y_ = (x7_4 ++ [x10_4]) := ⟨_, rfl⟩
                                  replace H : (spec_PartsFor.l2 k4 l0 a1 y520 x8_12 x9_16 (wrap64 (x10_4 + 1))) = some r := by first | (rw [hy520]; with_reducible exact H) | (have H2_ := (Option.bind_some _ _).symm.trans H; rw [hy520]; with_reducible exact H2_) | (have H2_ := (Option.bind_some _ _).symm.trans H; with_reducible exact H2_) | with_reducible exact H | (rw [hy520]; exact H) | exact H
                                  have Ny520 := Aside0.mk hy520
                                  clear hy520
                                  have H' := Aside0.mk H
                                  clear H
                                  go_wp2_with (first | ((with_reducible refine gate_builtin (b := .append) (xs := #[.tmp 89, .tmp 91]) rfl ?_); at_builtin; refine Kd.R_append (Kd.int .i64) (w0 := w) w.heap.size rfl (.tmp 89) (.tmp 91) 22 3 (.int .i64 0) 8 rfl Try.underlying22 info3 rfl (by decide) (by omega) u7 x7_4 x10_4 [.int .i64 x10_4] (fun _ => True) (fun _ => False) rfl rfl ?aP (fun _ hk => hk.elim) ?aF ?aO ?aB ?aS ?aL ?_; (case aP => exact rfl); (case aB => exact (by repeat (first | (with_reducible first | exact HB.out | apply below_alloc | apply pw_below_drewN | apply below_drew1) | exact HB.out))); (case aF => exact (fun _ _ => trivial)); (case aO => exact (by (with_reducible repeat (first | apply Kd.R_alloc | apply Kd.R_drewN | apply Kd.R_drew)); exact HO_7.out)); (case aS => exact (below_size (by repeat (first | (with_reducible first | exact HB.out | apply below_alloc | apply pw_below_drewN | apply below_drew1) | exact HB.out)))); (case aL => have := LMc51.out; omega); intro v521 w52 ho hb hg hat; rw [← Ny520.out] at ho; have n0_ := Aside0.mk (hb); have n1_ := Aside0.mk (ho); clear HB; clear HO_7; have HB := n0_; have HO522 := n1_; clear n0_ n1_; clear ho hb hg hat))
                                  go_roundg k4
                                  case measure => have := HJ3.out; have := HJ12.out; have := HJ16.out; have := HK4.out; omega
                                  case rel => exact ⟨(y520), (wrap64 (x10_4 + 1)), (by first | rfl | (simp; done) | (simp [*]; done)), H', ⟨by have := HJ3.out; have := HJ12.out; have := HJ16.out; have := HK4.out; omega⟩, ⟨by (with_reducible repeat (first | apply Kd.R_alloc | apply Kd.R_drewN | apply Kd.R_drew)); exact HO522.out⟩, ⟨by repeat (first | (with_reducible first | exact HB.out | apply below_alloc | apply pw_below_drewN | apply below_drew1) | exact HB.out)⟩⟩
                                · rw [if_neg c51] at H
                                  exact absurd H (by simp)
                              · rw [if_neg c50] at H
                                have c50b0 : decide (x10_4 ≤ x8_12) = false := decide_eq_false c50
                                clear c50
                                have H' := Aside0.mk H
                                clear H
                                go_wp2
                                go_roundg k4
                                case measure => have := HJ3.out; have := HJ12.out; have := HJ16.out; have := HK4.out; omega
                                case rel => exact ⟨(x7_4), (wrap64 (x10_4 + 1)), (by first | rfl | (simp; done) | (simp [*]; done)), H', ⟨by have := HJ3.out; have := HJ12.out; have := HJ16.out; have := HK4.out; omega⟩, ⟨by (with_reducible repeat (first | apply Kd.R_alloc | apply Kd.R_drewN | apply Kd.R_drew)); exact HO_7.out⟩, ⟨by repeat (first | (with_reducible first | exact HB.out | apply below_alloc | apply pw_below_drewN | apply below_drew1) | exact HB.out)⟩⟩
                            · rw [if_neg c49] at H
                              have c49b0 : (a1 == 4) = false := beq_eq_false_iff_ne.mpr c49
                              have c49b1 : (a1 != 4) = true := bne_iff_ne.mpr c49
                              have H' := Aside0.mk H
                              clear H
                              go_wp2
                              go_roundg k4
                              case measure => have := HJ3.out; have := HJ12.out; have := HJ16.out; have := HK4.out; omega
                              case rel => exact ⟨(x7_4), (wrap64 (x10_4 + 1)), (by first | rfl | (simp; done) | (simp [*]; done)), H', ⟨by have := HJ3.out; have := HJ12.out; have := HJ16.out; have := HK4.out; omega⟩, ⟨by (with_reducible repeat (first | apply Kd.R_alloc | apply Kd.R_drewN | apply Kd.R_drew)); exact HO_7.out⟩, ⟨by repeat (first | (with_reducible first | exact HB.out | apply below_alloc | apply pw_below_drewN | apply below_drew1) | exact HB.out)⟩⟩
                    · rw [if_neg c21] at H
                      have c21b0 : decide (x10_4 ≤ (l0.length : Int)) = false := decide_eq_false c21
                      clear c21
                      obtain rfl := Option.some.inj H
                      go_wp2
                      go_ret
                      exact ⟨_, by first | rfl | (simp [errW_none, errW_some] <;> rfl) | (simp [*, errW_none, errW_some] <;> rfl), by (with_reducible repeat (first | apply Kd.R_alloc | apply Kd.R_drewN | apply Kd.R_drew)); exact HO_7.out, by repeat (first | (with_reducible first | exact HB.out | apply below_alloc | apply pw_below_drewN | apply below_drew1) | exact HB.out)⟩
end

section
/-! ### slices_IndexFunc_int_int: function 95 -/
set_option maxHeartbeats 8000000 in
set_option maxRecDepth 100000 in
theorem idx95.calls (p : Int → Bool) (g : Nat) (lb : Array Value) (eg : ∀ args w, (callFunc g args).run Try.prog w = .ok (.enter g args) w) (A0 : Option Addr) (c0 : Nat) (l0 : List Int) (w : World) (hr0 : Kd.C (Kd.int .i64) w A0 l0.length l0)
    (hp : ∀ (W : World) (x : Int) (cs : List Value), x ∈ l0 → Below w.heap.size w W → Kd.K (Kd.int .i64) W x cs → Calls Try.prog g (#[cs.headD undef] ++ lb) W fun e w' => e = .returned (.bool (p x)) ∧ Below w.heap.size w w') :
    Calls Try.prog 95 #[.slice A0 l0.length c0, .func (.func g) #[] lb] w fun e w' => e = .returned (.int .i64 (idxFrom p l0 0)) ∧ Below w.heap.size w w' := by
  have aE : ∀ w, (isAgg 3).run Try.prog w = .ok false w := fun w => by kernel_rfl
  obtain ⟨kS, hkS⟩ : ∃ kS, kS = 1 := ⟨_, rfl⟩
  have zE : ∀ w, (Go.sizeOf 3).run Try.prog w = .ok kS w := fun w => by rw [hkS]; kernel_rfl
  have HKS := Aside0.mk hkS
  clear hkS
  have hbig : l0.length ≤ 9223372036854775807 := hr0.2.1
  obtain ⟨n, hn⟩ : ∃ n, l0.length = n := ⟨_, rfl⟩
  have HR := Aside0.mk hr0
  have HP := Aside0.mk hp
  clear hr0 hp
  rw [hn] at HR hbig ⊢
  have HN := Aside0.mk hn
  clear hn
  go_enter Try.func95, Try.ntmps95
  go_wp2
  go_loopg [5, 8] n (fun gg _ s8 wr => ∃ kk : Nat, kk ≤ n ∧ n - kk ≤ gg ∧ s8 = .int .i64 kk ∧ Aside0 (Below w.heap.size w wr) ∧ Aside0 (∀ j (hj : j < kk) (hl : j < l0.length), p l0[j] = false))
  case atStart => exact ⟨0, Nat.zero_le _, by omega, rfl, ⟨Below.refl _ w⟩, ⟨fun j hj => absurd hj (Nat.not_lt_zero _)⟩⟩
  case round =>
    obtain ⟨kk, hkk, hg, rfl, BW, A⟩ := hrel
    by_cases hlt : kk < n
    · have hltz : decide ((kk : Int) < (n : Int)) = true := decide_eq_true (by omega)
      obtain ⟨ad, hA, hc⟩ := HR.out.2.2 (by omega)
      subst hA
      have hkl : kk < l0.length := by rw [HN.out]; exact hlt
      obtain ⟨cs, hcl, hK, hcell⟩ := hc kk (l0[kk]'hkl) (List.getElem?_eq_getElem hkl)
      obtain ⟨v, rfl⟩ : ∃ v, cs = [v] := (match cs, hcl with | [v], _ => ⟨v, rfl⟩)
      have l2 : wr.cell? (ad.add (kk * kS)) = some v := by
        have h1 := pw_cell_below BW.out (hcell 0 v rfl)
        rw [HKS.out]
        exact h1
      have hcall := HP.out wr (l0[kk]'hkl) [v] (List.getElem_mem hkl) BW.out (Kd.K_below (Kd.int .i64) BW.out hK)
      have hcall : Calls Try.prog g (#[v] ++ lb) wr fun e w' => e = .returned (.bool (p (l0[kk]'hkl))) ∧ Below w.heap.size w w' := hcall
      have HY : ∃ y, l0[kk]'hkl = y := ⟨_, rfl⟩
      obtain ⟨y, hy⟩ := HY
      rw [hy] at hcall
      have HYY := Aside0.mk hy
      clear hy hc hcell hK
      cases hq : p y with
      | true =>
        rw [hq] at hcall
        go_wp2_with ((with_reducible refine hcall.mono ?_); rintro e w' ⟨rfl, hb'⟩)
        go_ret
        refine ⟨?_, hb'⟩
        rw [idx_hit p l0 kk 0 hkl (by rw [HYY.out]; exact hq) (fun j hj => A.out j hj (by rw [HN.out]; omega))]
        rw [Int.zero_add]
        rfl
      | false =>
        rw [hq] at hcall
        go_wp2_with ((with_reducible refine hcall.mono ?_); rintro e w' ⟨rfl, hb'⟩)
        go_roundg (n - (kk + 1))
        case measure => omega
        case rel =>
          refine ⟨kk + 1, by omega, by omega, by go_num, ⟨hb'⟩, ⟨fun j hj hl => ?_⟩⟩
          by_cases e : j = kk
          · subst e
            rw [HYY.out]; exact hq
          · exact A.out j (by omega) hl
    · have hltz : decide ((kk : Int) < (n : Int)) = false := decide_eq_false (by omega)
      have : kk = n := by omega
      subst this
      go_wp2
      go_ret
      refine ⟨?_, BW.out⟩
      rw [idx_miss p l0 0 (fun j hj => A.out j (by rw [← HN.out]; exact hj) hj)]
      rfl

-- NOT PRINTED: function 86 (slices_DeleteFunc_int_int)
end

section
/-! ### impl_below: function 67 -/
set_option maxRecDepth 100000 in
theorem impl_below.eql_none (n c : Nat) (w : World) : (binOp BinOp.eql 22 (Value.slice none n c) (Value.slice none 0 0)).run Try.prog w = .ok (.bool true) w := by
  first | rfl | kernel_rfl | (simp [go_sem, binOp, Try.underlying22]; done)
set_option maxRecDepth 100000 in
theorem impl_below.eql_some (a : Addr) (n c : Nat) (w : World) : (binOp BinOp.eql 22 (Value.slice (some a) n c) (Value.slice none 0 0)).run Try.prog w = .ok (.bool false) w := by
  first | rfl | kernel_rfl | (simp [go_sem, binOp, Try.underlying22]; done)
attribute [local go_sem] impl_below.eql_none impl_below.eql_some
set_option maxHeartbeats 8000000 in
set_option maxRecDepth 100000 in
theorem impl_below.clone (A0 : Option Addr) (c0 : Nat) (l0 : List Int) (w : World) (hr0 : Kd.C (Kd.int .i64) w A0 l0.length l0) (hc0 : l0.length ≤ c0) (hl : l0.length ≤ 1000000) :
    Calls Try.prog 60 #[.slice A0 l0.length c0] w fun e w' => ∃ v0_ : Value, e = .returned (v0_) ∧ Kd.R (Kd.int .i64) 3 w' w.heap.size (fun _ => True) v0_ l0 ∧ Below w.heap.size w w' := by
  have hu22 := Try.underlying22
  have hu3 := Try.underlying3
  have HR0 := Aside0.mk hr0
  have HB := Aside0.mk (Below.refl w.heap.size w)
  cases A0 with
  | none =>
    have hnil : l0 = [] := by
      by_cases h : 0 < l0.length
      · obtain ⟨ad, hA, _⟩ := hr0.2.2 h
        cases hA
      · exact List.length_eq_zero_iff.1 (by omega)
    clear hr0
    subst hnil
    go_enter Try.func60, Try.ntmps60
    go_wp2
    go_ret
    exact ⟨_, rfl, Kd.R_nil _ _ _ _ _, HB.out⟩
  | some a =>
    clear hr0
    go_enter Try.func60, Try.ntmps60
    go_wp2_with (first | ((with_reducible refine gate_dst (N := 5) rfl ?_); refine Kd.R_lit (Kd.int .i64) _ 3 ?hg (N := 5) ?hd (xs := ([] : List Int)) (inner := []) (ok := fun _ => True) (okp := fun _ => True) ?hr ?hp (fun _ hk => hk) trivial (Below.refl _ _) (Nat.le_refl _) (by simp) ?_; (case hd => rfl); (case hg => rfl); (case hr => first | (go_simp; done) | (go_simp; rfl)); (case hp => exact (Reps.none _ _)); intro v5 w5 ho5 hb hg_ hnew_; clear hg_ hnew_; have HO5 := Aside0.mk ho5; have HR5 := Aside0.mk (Kd.C_below HR0.out hb); have HB5 := Aside0.mk hb; clear ho5 hb) | ((with_reducible refine gate_builtin (b := .append) rfl ?_); at_builtin; refine Kd.R_append_rows (Kd.int .i64) (w0 := w) w.heap.size rfl (.tmp 5) (.tmp 6) 22 3 (.int .i64 0) 8 rfl Try.underlying22 (by kernel_rfl) rfl (by decide) (by omega) v5 [] l0 _ _ _ (fun _ => True) (fun _ => False) rfl rfl HO5.out HR5.out (fun _ _ h => h) (fun _ h => h.elim) (fun _ _ => trivial) HB5.out (below_size HB5.out) (by simp only [List.length_nil]; omega) ?_; intro v1 w1 ho hb hg hat; rw [List.nil_append] at ho; have HO := Aside0.mk ho; have HB1 := Aside0.mk hb; clear ho hb hg hat))
    go_ret
    exact ⟨_, rfl, HO.out, HB1.out⟩
theorem impl_below.zeros (k : Nat) : (Builtin.zeroCells #[Value.int IntKind.i64 0] k).toList = List.replicate k (Value.int IntKind.i64 0) := by
  rw [List.eq_replicate_iff]
  constructor
  · simp [Builtin.zeroCells]
  · intro b hb
    simp only [Builtin.zeroCells, Array.toList_map, List.mem_map] at hb
    obtain ⟨a, _, rfl⟩ := hb
    simp [Nat.mod_one]
theorem impl_below.clear (b o k c : Nat) (W : World) (hth : W.there b o (k + 1)) :
    (Builtin.clear_ #[22] 0 #[.slice (some ⟨b, o, none⟩) (k + 1) c]).run Try.prog W = .ok (.tuple #[]) (W.setCells b o (List.replicate (k + 1) (.int .i64 0))) := by
  have h1 := run_storeCells_cells (P := Try.prog) b o (List.replicate (k + 1) (.int .i64 0)) 0 W (fun j hj => by simpa using (hth j (by simpa using hj)).1) (fun j hj => by simpa using (hth j (by simpa using hj)).2) (by simp [Value.oneCell'])
  rw [Nat.add_zero] at h1
  unfold Builtin.clear_
  simp [go_sem, impl_below.zeros, h1, Result.andThen]
theorem impl_below.below_cells {w0 : World} {base b : Nat} (hb : base ≤ b) : ∀ (vs : List Value) (o : Nat) (W : World), Below base w0 W → Below base w0 (W.setCells b o vs)
  | [], _, _, h => h
  | v :: r, o, W, h => impl_below.below_cells hb r (o + 1) _ (h.setCell hb v)
set_option maxHeartbeats 8000000 in
set_option maxRecDepth 100000 in
theorem impl_below.del (p : Int → Bool) (g : Nat) (lb : Array Value) (eg : ∀ args w, (callFunc g args).run Try.prog w = .ok (.enter g args) w) (l0 : List Int) (A0 : Option Addr) (c0 : Nat) (w w0 : World) (base : Nat)
    (HO0 : Kd.R (Kd.int .i64) 3 w base (fun _ => True) (.slice A0 l0.length c0) l0) (HB0 : Below base w0 w) (hbase : base ≤ w.heap.size)
    (i : Nat) (hi : i ≤ l0.length) (hidx : idxFrom p l0 0 = if i < l0.length then (i : Int) else -1) (hrest : ∀ j (hj : j < l0.length), i ≤ j → p l0[j] = true)
    (hp : ∀ (W : World) (x : Int) (cs : List Value), x ∈ l0 → Below w.heap.size w W → Kd.K (Kd.int .i64) W x cs → Calls Try.prog g (#[cs.headD undef] ++ lb) W fun e w' => e = .returned (.bool (p x)) ∧ Below w.heap.size w w') :
    Calls Try.prog 86 #[.slice A0 l0.length c0, .func (.func g) #[] lb] w fun e w' => (∃ A1 c1, e = .returned (.slice A1 i c1)) ∧ Below base w0 w' := by
  have hu22 := Try.underlying22
  have hu3 := Try.underlying3
  have hr0 := (Kd.R_reads' HO0).2.2
  have hnc := (Kd.R_reads' HO0).2.1
  have HIDX := Aside0.mk (idx95.calls p g lb eg A0 c0 l0 w hr0 hp)
  have HBB := Aside0.mk HB0
  have hbig : l0.length ≤ 9223372036854775807 := hr0.2.1
  by_cases hlt : i < l0.length
  · rw [if_pos hlt] at hidx
    rw [hidx] at HIDX
    have hne : ((i : Int) == -1) = false := beq_eq_false_iff_ne.mpr (by omega)
    have aE : ∀ w, (isAgg 3).run Try.prog w = .ok false w := fun w => by kernel_rfl
    obtain ⟨kS, hkS⟩ : ∃ kS, kS = 1 := ⟨_, rfl⟩
    have zE : ∀ w, (Go.sizeOf 3).run Try.prog w = .ok kS w := fun w => by rw [hkS]; kernel_rfl
    have HKS := Aside0.mk hkS
    clear hkS
    obtain ⟨n, hn⟩ : ∃ n, l0.length = n := ⟨_, rfl⟩
    have HOO := Aside0.mk HO0
    have HR := Aside0.mk hr0
    have HP := Aside0.mk hp
    have HRS := Aside0.mk hrest
    clear hr0 hp HO0 HB0 hrest
    rw [hn] at HR hbig hlt hnc HIDX ⊢
    have HN := Aside0.mk hn
    clear hn hidx
    have hcap1 : decide ((0 : Int) ≤ (i : Int)) = true := decide_eq_true (by omega)
    have hcap2 : decide ((i : Int) ≤ (n : Int)) = true := decide_eq_true (by omega)
    have hcap3 : decide ((n : Int) ≤ (c0 : Int)) = true := decide_eq_true (by omega)
    have hcap4 : decide ((i : Int) ≤ (c0 : Int)) = true := decide_eq_true (by omega)
    go_enter Try.func86, Try.ntmps86
    go_wp2_with (go_at_call 95; (with_reducible refine HIDX.out.mono ?_); rintro e w1 ⟨rfl, hb1⟩)
    have HB1 := Aside0.mk hb1
    clear hb1
    go_loopg [5, 6, 7] n (fun gg s5 s6 s7 wr => ∃ kk : Nat, s5 = .int .i64 i ∧ s6 = .int .i64 kk ∧ i < kk ∧ kk ≤ n ∧ n - kk ≤ gg ∧ Aside0 (Below w.heap.size w wr))
    case atStart => exact ⟨i + 1, rfl, by go_num, by omega, by omega, by omega, HB1⟩
    case round =>
      obtain ⟨kk, rfl, rfl, hik, hkk, hg, BW⟩ := hrel
      by_cases hkn : kk < n
      · have hltz : decide ((kk : Int) < (n : Int)) = true := decide_eq_true (by omega)
        obtain ⟨ad, hA, hc⟩ := HR.out.2.2 (by omega)
        subst hA
        have hkl : kk < l0.length := by rw [HN.out]; exact hkn
        obtain ⟨cs, hcl, hK, hcell⟩ := hc kk (l0[kk]'hkl) (List.getElem?_eq_getElem hkl)
        obtain ⟨v, rfl⟩ : ∃ v, cs = [v] := (match cs, hcl with | [v], _ => ⟨v, rfl⟩)
        have l2 : wr.cell? (ad.add (kk * kS)) = some v := by
          have h1 := pw_cell_below BW.out (hcell 0 v rfl)
          rw [HKS.out]
          exact h1
        have hcall := HP.out wr (l0[kk]'hkl) [v] (List.getElem_mem hkl) BW.out (Kd.K_below (Kd.int .i64) BW.out hK)
        have hcall : Calls Try.prog g (#[v] ++ lb) wr fun e w' => e = .returned (.bool (p (l0[kk]'hkl))) ∧ Below w.heap.size w w' := hcall
        have hq := HRS.out kk hkl (by omega)
        rw [hq] at hcall
        clear hc hcell hK hq
        go_wp2_with ((with_reducible refine hcall.mono ?_); rintro e w' ⟨rfl, hb'⟩)
        go_roundg (n - (kk + 1))
        case measure => omega
        case rel => exact ⟨kk + 1, rfl, by go_num, by omega, by omega, by omega, ⟨hb'⟩⟩
      · have hltz : decide ((kk : Int) < (n : Int)) = false := decide_eq_false (by omega)
        have : kk = n := by omega
        subst this
        obtain ⟨_, inner, ⟨_, hown⟩, _⟩ := HOO.out
        rcases hown with ⟨_, h0⟩ | ⟨gb, cap, cur, hv, hgb, hheap, hncap, hcm, hcs, htk⟩
        · exfalso
          have := HN.out
          omega
        · injection hv with hA h2 h3
          subst hA
          subst h3
          have hgl : gb < w.heap.size := (Array.getElem?_eq_some_iff.1 hheap).1
          have hw : wr.heap[gb]? = some (.cells cur 3 (0, 0)) := by
            rw [← hheap]
            first | exact BW.out.block gb hgl | exact (BW.out.block gb hgl).symm
          have hsz : c0 ≤ cur.size := by
            have : (Kd.int .i64).sz = 1 := rfl
            rw [this, Nat.mul_one] at hcs
            exact hcs
          have hth : wr.there gb i ((kk - i - 1) + 1) := by
            intro j hj
            refine ⟨?_, blk_frozen hw (i + j)⟩
            have := blk_cell hw (i + j)
            rw [this, Array.getElem?_eq_getElem (by omega)]
            rfl
          have hadd : i * kS = i := by rw [HKS.out, Nat.mul_one]
          obtain ⟨W2, hW2⟩ : ∃ W2, W2 = wr.setCells gb i (List.replicate ((kk - i - 1) + 1) (.int .i64 0)) := ⟨_, rfl⟩
          have hclr : (Builtin.clear_ #[22] 0 #[.slice (some ⟨gb, i, none⟩) (kk - i) (c0 - i)]).run Try.prog wr = .ok (.tuple #[]) W2 := by
            rw [hW2, show kk - i = (kk - i - 1) + 1 by omega]
            exact impl_below.clear gb i (kk - i - 1) _ wr hth
          have HB2 : Below base w0 W2 := by
            rw [hW2]
            exact impl_below.below_cells hgb _ _ _ (HBB.out.trans (BW.out.mono hbase))
          clear hW2 hth hw hheap
          go_wp2
          go_ret
          exact ⟨⟨_, _, rfl⟩, HB2⟩
  · have he : i = l0.length := by omega
    rw [if_neg hlt] at hidx
    rw [hidx] at HIDX
    go_enter Try.func86, Try.ntmps86
    go_wp2_with (go_at_call 95; (with_reducible refine HIDX.out.mono ?_); rintro e w1 ⟨rfl, hb1⟩)
    go_ret
    exact ⟨⟨A0, c0, by rw [he]; rfl⟩, HBB.out.trans (hb1.mono hbase)⟩
theorem impl_below.run_mk (fn : Fn) (first cap : Array Value) (w : World) : (Instr.makeFunc fn first cap).run Try.prog w = .ok (.func fn first cap) w := rfl
attribute [local go_sem] impl_below.run_mk
set_option maxHeartbeats 8000000 in
set_option maxRecDepth 100000 in
theorem impl_below.each (W : World) (gb : Nat) (n x : Int) (hcell : W.cell? ⟨gb, 0, none⟩ = some (.int .i64 n)) :
    Calls Try.prog 87 #[.int .i64 x, .pointer (some ⟨gb, 0, none⟩)] W fun e w' => e = .returned (.bool (decide (n < x))) ∧ w' = W := by
  have hu3 := Try.underlying3
  go_enter Try.func87, Try.ntmps87
  go_wp2
  go_ret
  exact ⟨rfl, rfl⟩
def impl_below.f (l0 : List Int) (a1 : Int) : Option Int := if l0.length ≤ 1000000 ∧ (∀ x ∈ l0.dropWhile (fun c => decide (c ≤ a1)), a1 < x) then some ((l0.takeWhile (fun c => decide (c ≤ a1))).length : Int) else none
set_option maxHeartbeats 8000000 in
set_option maxRecDepth 100000 in
theorem impl_below.calls (A0 : Option Addr) (c0 : Nat) (l0 : List Int) (a1 : Int) (r : Int) (w : World) (hr0 : Kd.C (Kd.int .i64) w A0 l0.length l0) (hc0 : l0.length ≤ c0) (h : impl_below.f l0 a1 = some r) :
    Calls Try.prog 67 #[.slice A0 l0.length c0, .int .i64 a1] w fun e w' => e = .returned (.int .i64 r) ∧ Below w.heap.size w w' := by
  unfold impl_below.f at h
  by_cases hc : l0.length ≤ 1000000 ∧ (∀ x ∈ l0.dropWhile (fun c => decide (c ≤ a1)), a1 < x)
  case neg => rw [if_neg hc] at h; cases h
  rw [if_pos hc] at h
  obtain rfl := Option.some.inj h
  obtain ⟨hl, hD⟩ := hc
  obtain ⟨T, hTe⟩ : ∃ T, l0.takeWhile (fun c => decide (c ≤ a1)) = T := ⟨_, rfl⟩
  obtain ⟨D, hDe⟩ : ∃ D, l0.dropWhile (fun c => decide (c ≤ a1)) = D := ⟨_, rfl⟩
  have hTD : l0 = T ++ D := by rw [← hTe, ← hDe, List.takeWhile_append_dropWhile]
  have hT : ∀ x ∈ T, x ≤ a1 := by
    intro x hx
    rw [← hTe] at hx
    have := List.all_takeWhile (p := fun c => decide (c ≤ a1)) (l := l0)
    rw [List.all_eq_true] at this
    exact of_decide_eq_true (this x hx)
  rw [hDe] at hD
  rw [hTe]
  clear hTe hDe h
  have hlen : l0.length = T.length + D.length := by rw [hTD, List.length_append]
  have pT : ∀ j (hj : j < l0.length), j < T.length → decide (a1 < l0[j]) = false := by
    intro j hj hjT
    have e : l0[j] = T[j] := by simp only [hTD, List.getElem_append_left hjT]
    rw [e]
    have := hT _ (List.getElem_mem hjT)
    exact decide_eq_false (by omega)
  have pD : ∀ j (hj : j < l0.length), T.length ≤ j → decide (a1 < l0[j]) = true := by
    intro j hj hjT
    have e : l0[j] = D[j - T.length]'(by omega) := by simp only [hTD, List.getElem_append_right hjT]
    rw [e]
    exact decide_eq_true (hD _ (List.getElem_mem _))
  have hidx : idxFrom (fun c => decide (a1 < c)) l0 0 = if T.length < l0.length then (T.length : Int) else -1 := by
    by_cases hlt : T.length < l0.length
    · rw [if_pos hlt, idx_hit (fun c => decide (a1 < c)) l0 T.length 0 hlt (pD _ hlt (Nat.le_refl _)) (fun j hj => pT j (by omega) hj), Int.zero_add]
    · rw [if_neg hlt, idx_miss (fun c => decide (a1 < c)) l0 0 (fun j hj => pT j hj (by omega))]
  have hu22 := Try.underlying22
  have hu3 := Try.underlying3
  have HR0 := Aside0.mk hr0
  have HPD := Aside0.mk pD
  have HIX := Aside0.mk hidx
  have HLN := Aside0.mk hlen
  clear hr0 pT pD hidx hT hD hTD hlen
  go_enter Try.func67, Try.ntmps67
  go_wp2_with (first | ((with_reducible refine gate_dst (N := 3) rfl ?_); refine box_event ?hg (N := 3) ?hd (cs := #[.int .i64 a1]) (t := 3) ?hr ?_; (case hd => rfl); (case hg => rfl); (case hr => first | (go_simp; done) | (go_simp; rfl)); intro gb hg w3 hbox hb; have HBOX := Aside0.mk hbox; have HB3 := Aside0.mk hb; have HR3 := Aside0.mk (Kd.C_below HR0.out hb); clear hbox hb hg) | (go_at_call 60; (with_reducible refine (impl_below.clone A0 c0 l0 w3 HR3.out hc0 hl).mono ?_); rintro e w4 ⟨v4, rfl, ho4, hb4⟩; obtain ⟨A4, c4, e4⟩ := Kd.R_slice ho4; subst e4; have HO4 := Aside0.mk ho4; have HB4 := Aside0.mk hb4; clear ho4 hb4) | (go_at_call 86; (with_reducible refine (impl_below.del (fun c => decide (a1 < c)) 87 #[.pointer (some ⟨gb, 0, none⟩)] (enters_own Try.func87 (by kernel_rfl) rfl) l0 A4 c4 w4 w3 w3.heap.size HO4.out HB4.out (below_size HB4.out) T.length (by have := HLN.out; omega) HIX.out HPD.out ?hpp).mono ?_); (case hpp => intro W x cs hx hW hK; obtain rfl : cs = [.int .i64 x] := hK; exact (impl_below.each W gb a1 x (pw_cell_below hW (pw_cell_below HB4.out (blk_cell HBOX.out 0)))).mono (fun e w' q => ⟨q.1, by rw [q.2]; exact hW⟩)); rintro e w5 ⟨⟨A5, c5, rfl⟩, hb5⟩; have HB5 := Aside0.mk hb5; clear hb5))
  go_ret
  exact ⟨rfl, HB3.out.trans (HB5.out.mono (below_size HB3.out))⟩
end

end Go.Proofs.Ytkgnfbockgcdpaa.X
