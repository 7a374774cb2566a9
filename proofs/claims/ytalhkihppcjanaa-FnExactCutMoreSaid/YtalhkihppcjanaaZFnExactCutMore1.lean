/- Plain functions for the Go functions of this seat, and proofs that each call answers as its plain function does; made by this session's program over the kit's printer. -/
import Derived.Shelf.Spec.SlicesInsertGrow
import Derived.Test.YtalhkihppcjanaaX0
import Derived.Test.YtalhkihppcjanaaZFnExactCutMore0
namespace Go.Proofs.Ytalhkihppcjanaa.X
open Go.RowKit Go.Proofs.YtalhkihppcjanaaV.PrintWords Go.Proofs.YtalhkihppcjanaaV.PrintLast Go.Proofs.YtalhkihppcjanaaV.PrintMore
attribute [local go_sem] max2_int min2_int max_two min_two max_three min_three max_four min_four   -- for this text's walks alone
set_option linter.unusedVariables false
set_option linter.unusedSimpArgs false

section
/-! ### slices_BinarySearch_int_int: function 36 -/
def slices_BinarySearch_int_int.l0 : Nat → List Int → Int → Int → Int → Int → Option (Int × Bool)
  | 0, _, _, _, _, _ => none
  | k + 1, x0, x1, x6, x7, x8 => if x7 < x8 then (if 0 ≤ (wrap64 ((IntKind.u64.wrap (wrap64 (x7 + x8))) / 2)) then (if (wrap64 ((IntKind.u64.wrap (wrap64 (x7 + x8))) / 2)) < (x0.length : Int) then ((cmp_Less_int.f (rd x0 (wrap64 ((IntKind.u64.wrap (wrap64 (x7 + x8))) / 2))) x1).bind fun t152 => (if t152 = true then (slices_BinarySearch_int_int.l0 k x0 x1 x6 (wrap64 ((wrap64 ((IntKind.u64.wrap (wrap64 (x7 + x8))) / 2)) + 1)) x8) else (slices_BinarySearch_int_int.l0 k x0 x1 x6 x7 (wrap64 ((IntKind.u64.wrap (wrap64 (x7 + x8))) / 2))))) else (none)) else (none)) else (if x7 < x6 then (if 0 ≤ x7 then (if x7 < (x0.length : Int) then (if (rd x0 x7) = x1 then (some (x7, true)) else ((slices_isNaN_int.f (rd x0 x7)).bind fun t155 => (if t155 = true then ((slices_isNaN_int.f x1).bind fun t156 => (some (x7, t156))) else (some (x7, false))))) else (none)) else (none)) else (some (x7, false)))
def slices_BinarySearch_int_int.f (k : Nat) (l0 : List Int) (a1 : Int) : Option (Int × Bool) := slices_BinarySearch_int_int.l0 k l0 a1 (l0.length : Int) 0 (l0.length : Int)
theorem slices_BinarySearch_int_int.mono_l : ∀ k, (∀ y0 y1 y2 y3 y4, LeO (slices_BinarySearch_int_int.l0 k y0 y1 y2 y3 y4) (slices_BinarySearch_int_int.l0 (k + 1) y0 y1 y2 y3 y4))
  | 0 => fun _ _ _ _ _ r h => by simp [slices_BinarySearch_int_int.l0] at h
  | k + 1 => by
    have ih0 := slices_BinarySearch_int_int.mono_l k
    · intro y0 y1 y2 y3 y4
      unfold slices_BinarySearch_int_int.l0
      repeat' first
      | (with_reducible exact ih0 _ _ _ _ _)
      | (with_reducible exact LeO.refl _)
      | (with_reducible exact LeO.none _)
      | (with_reducible refine LeO.ite ?_ ?_)
      | (with_reducible refine LeO.bind ?_ (fun _ => ?_))
      | exact ih0 _ _ _ _ _
      | exact LeO.none _
      | refine LeO.ite ?_ ?_
      | refine LeO.bind ?_ (fun _ => ?_)
theorem slices_BinarySearch_int_int.mono : ∀ a0 a1 k, LeO (slices_BinarySearch_int_int.f k a0 a1) (slices_BinarySearch_int_int.f (k + 1) a0 a1) := by
  intro a0 a1 k
  have ih0 := slices_BinarySearch_int_int.mono_l k
  unfold slices_BinarySearch_int_int.f
  repeat' first
      | (with_reducible exact ih0 _ _ _ _ _)
      | (with_reducible exact LeO.refl _)
      | (with_reducible exact LeO.none _)
      | (with_reducible refine LeO.ite ?_ ?_)
      | (with_reducible refine LeO.bind ?_ (fun _ => ?_))
      | exact ih0 _ _ _ _ _
      | exact LeO.none _
      | refine LeO.ite ?_ ?_
      | refine LeO.bind ?_ (fun _ => ?_)
set_option maxHeartbeats 8000000 in
set_option maxRecDepth 100000 in
theorem slices_BinarySearch_int_int.calls (k : Nat) (A0 : Option Addr) (c0 : Nat) (l0 : List Int) (a1 : Int) (r1 : Int) (r2 : Bool) (w : World) (hr0 : Kd.C (Kd.int .i64) w A0 l0.length l0) (hc0 : l0.length ≤ c0) (h : slices_BinarySearch_int_int.f k l0 a1 = some (r1, r2)) :
    Calls Try.prog 36 #[.slice A0 l0.length c0, .int .i64 a1] w fun e w' => e = .returned (.tuple #[.int .i64 r1, .bool r2]) ∧ Drawn0 w w' := by
  have HR0 := Aside0.mk hr0
  have HC0 := Aside0.mk hc0
  clear hr0 hc0
  have H : (slices_BinarySearch_int_int.l0 k l0 a1 (l0.length : Int) 0 (l0.length : Int)) = some (r1, r2) := h
  clear h
  have H' := Aside0.mk H
  clear H
  go_enter Try.func36, Try.ntmps36
  go_wp2
  go_loopg [7, 8] k (fun kq v7 v8 w' => ∃ (x7_1 : Int) (x8_1 : Int), v7 = .int .i64 x7_1 ∧ v8 = .int .i64 x8_1 ∧ Aside0 (slices_BinarySearch_int_int.l0 kq l0 a1 (l0.length : Int) x7_1 x8_1 = some (r1, r2)) ∧ Aside0 (kq ≤ k) ∧ Drawn0 w w')
  case atStart => exact ⟨(0), ((l0.length : Int)), (by first | rfl | (simp; done) | (simp [*]; done)), (by first | rfl | (simp; done) | (simp [*]; done)), H', ⟨Nat.le_refl _⟩, by repeat (first | exact Drawn0.refl _ | apply Drawn0.step)⟩
  case round =>
    clear H'
    try clear p2
    obtain ⟨x7_1, x8_1, rfl, rfl, HA, HK1, ⟨m1, rfl⟩⟩ := hrel
    cases gk with
    | zero => exact absurd HA.out (by simp [slices_BinarySearch_int_int.l0])
    | succ k1 =>
      have H := HA.out
      clear HA
      simp only [slices_BinarySearch_int_int.l0] at H
      by_cases c3 : x7_1 < x8_1
      · rw [if_pos c3] at H
        have c3b0 : decide (x7_1 < x8_1) = true := decide_eq_true c3
        clear c3
        obtain ⟨ji4, hji4⟩ : ∃ j_ : Int, (wrap64 ((IntKind.u64.wrap (wrap64 (x7_1 + x8_1))) / 2)) = j_ := ⟨_, rfl⟩
        replace H : (if 0 ≤ (ji4) then (if (ji4) < (l0.length : Int) then ((cmp_Less_int.f (rd l0 (ji4)) a1).bind fun t152 => (if t152 = true then (slices_BinarySearch_int_int.l0 k1 l0 a1 (l0.length : Int) (wrap64 ((ji4) + 1)) x8_1) else (slices_BinarySearch_int_int.l0 k1 l0 a1 (l0.length : Int) x7_1 ji4))) else (none)) else (none)) = some (r1, r2) := by first | (rw [hji4] at H; exact H) | (simp only [hji4] at H ⊢; exact H)
        have hji4w : (IntKind.i64.wrap ((IntKind.u64.wrap (wrap64 (x7_1 + x8_1))) / 2)) = ji4 := (i64_w _).trans hji4
        by_cases c5 : 0 ≤ (ji4)
        · rw [if_pos c5] at H
          have c5b0 : decide (0 ≤ (ji4)) = true := decide_eq_true c5
          clear c5
          by_cases c6 : (ji4) < (l0.length : Int)
          · rw [if_pos c6] at H
            have c6b0 : decide ((ji4) < (l0.length : Int)) = true := decide_eq_true c6
            clear c6
            replace H := Option.bind_eq_some_iff.mp H
            obtain ⟨t152, A70, H⟩ := H
            replace H : (if t152 = true then (slices_BinarySearch_int_int.l0 k1 l0 a1 (l0.length : Int) (wrap64 ((ji4) + 1)) x8_1) else (slices_BinarySearch_int_int.l0 k1 l0 a1 (l0.length : Int) x7_1 ji4)) = some (r1, r2) := H
            have A7 := Aside0.mk A70
            clear A70
            by_cases c8 : t152 = true
            · subst c8
              have H1 : (slices_BinarySearch_int_int.l0 k1 l0 a1 (l0.length : Int) (wrap64 ((ji4) + 1)) x8_1) = some (r1, r2) := by rw [if_pos rfl] at H; exact H
              clear H
              have H := H1
              clear H1
              have H' := Aside0.mk H
              clear H
              have p151 : 0 ≤ ((ji4) : Int) := of_decide_eq_true (by first | (with_reducible assumption) | assumption)
              have q151 : (ji4) < (l0.length : Int) := of_decide_eq_true (by first | (with_reducible assumption) | assumption)
              obtain ⟨ad151, e151, hx151_0⟩ := Kd.at_int HR0.out (ji4) p151 q151
              cases e151
              replace p151 := eq_true p151
              replace q151 := eq_true q151
              go_wp2_with (first | ((with_reducible refine gate_callee (f := 79) rfl ?_); refine goesL_ (some 27) rfl rfl Try.func79 (by kernel_rfl) rfl #[.int .i64 (rd l0 (ji4)), .int .i64 a1] rfl (by (try simp only [List.map_toArray, List.map_cons, List.map_nil]); first | done | (simp only [hji4]; rfl) | rfl | (simp only [List.length_drop, List.length_take]; rfl)) ?_; (with_reducible refine (cmp_Less_int.calls (rd l0 (ji4)) a1 true _ A7.out).mono ?_); rintro e w' ⟨rfl, ⟨nd, rfl⟩⟩; refine ⟨_, rfl, ?_⟩))
              go_roundg k1
              case measure => have := HK1.out; omega
              case rel => exact ⟨(wrap64 ((ji4) + 1)), (x8_1), (by first | rfl | (simp; done) | (simp only [← hji4] <;> (first | rfl | simp)) | (simp [*]; done)), (by first | rfl | (simp; done) | (simp [*]; done)), H', ⟨by have := HK1.out; omega⟩, by repeat (first | exact Drawn0.refl _ | apply Drawn0.step)⟩
            · replace c8 := Bool.eq_false_iff.mpr c8
              subst c8
              have H1 : (slices_BinarySearch_int_int.l0 k1 l0 a1 (l0.length : Int) x7_1 ji4) = some (r1, r2) := by rw [if_neg (show ¬ (false = true) by decide)] at H; exact H
              clear H
              have H := H1
              clear H1
              have H' := Aside0.mk H
              clear H
              have p151 : 0 ≤ ((ji4) : Int) := of_decide_eq_true (by first | (with_reducible assumption) | assumption)
              have q151 : (ji4) < (l0.length : Int) := of_decide_eq_true (by first | (with_reducible assumption) | assumption)
              obtain ⟨ad151, e151, hx151_0⟩ := Kd.at_int HR0.out (ji4) p151 q151
              cases e151
              replace p151 := eq_true p151
              replace q151 := eq_true q151
              go_wp2_with (first | ((with_reducible refine gate_callee (f := 79) rfl ?_); refine goesL_ (some 27) rfl rfl Try.func79 (by kernel_rfl) rfl #[.int .i64 (rd l0 (ji4)), .int .i64 a1] rfl (by (try simp only [List.map_toArray, List.map_cons, List.map_nil]); first | done | (simp only [hji4]; rfl) | rfl | (simp only [List.length_drop, List.length_take]; rfl)) ?_; (with_reducible refine (cmp_Less_int.calls (rd l0 (ji4)) a1 false _ A7.out).mono ?_); rintro e w' ⟨rfl, ⟨nd, rfl⟩⟩; refine ⟨_, rfl, ?_⟩))
              go_roundg k1
              case measure => have := HK1.out; omega
              case rel => exact ⟨(x7_1), (ji4), (by first | rfl | (simp; done) | (simp [*]; done)), (by first | rfl | (simp; done) | (simp only [← hji4] <;> (first | rfl | simp)) | (simp [*]; done)), H', ⟨by have := HK1.out; omega⟩, by repeat (first | exact Drawn0.refl _ | apply Drawn0.step)⟩
          · rw [if_neg c6] at H
            exact absurd H (by simp)
        · rw [if_neg c5] at H
          exact absurd H (by simp)
      · rw [if_neg c3] at H
        have c3b0 : decide (x7_1 < x8_1) = false := decide_eq_false c3
        clear c3
        by_cases c9 : x7_1 < (l0.length : Int)
        · rw [if_pos c9] at H
          have c9b0 : decide (x7_1 < (l0.length : Int)) = true := decide_eq_true c9
          clear c9
          by_cases c10 : 0 ≤ x7_1
          · rw [if_pos c10] at H
            have c10b0 : decide (0 ≤ x7_1) = true := decide_eq_true c10
            clear c10
            by_cases c11 : x7_1 < (l0.length : Int)
            · rw [if_pos c11] at H
              have c11b0 : decide (x7_1 < (l0.length : Int)) = true := decide_eq_true c11
              clear c11
              by_cases c12 : (rd l0 x7_1) = a1
              · rw [if_pos c12] at H
                have c12b0 : ((rd l0 x7_1) == a1) = true := beq_iff_eq.mpr c12
                have c12b1 : ((rd l0 x7_1) != a1) = false := bne_eq_false_iff_eq.mpr c12
                clear c12
                simp only [Option.some.injEq, Prod.mk.injEq] at H
                obtain ⟨rfl, rfl⟩ := H
                have p153 : 0 ≤ (x7_1 : Int) := of_decide_eq_true (by first | (with_reducible assumption) | assumption)
                have q153 : x7_1 < (l0.length : Int) := of_decide_eq_true (by first | (with_reducible assumption) | assumption)
                obtain ⟨ad153, e153, hx153_0⟩ := Kd.at_int HR0.out x7_1 p153 q153
                cases e153
                replace p153 := eq_true p153
                replace q153 := eq_true q153
                go_wp2
                go_ret2
                exact ⟨by first | rfl | (simp; done) | (simp [*]; done), by repeat (first | exact Drawn0.refl _ | apply Drawn0.step)⟩
              · rw [if_neg c12] at H
                have c12b0 : ((rd l0 x7_1) == a1) = false := beq_eq_false_iff_ne.mpr c12
                have c12b1 : ((rd l0 x7_1) != a1) = true := bne_iff_ne.mpr c12
                replace H := Option.bind_eq_some_iff.mp H
                obtain ⟨t155, A130, H⟩ := H
                replace H : (if t155 = true then ((slices_isNaN_int.f a1).bind fun t156 => (some (x7_1, t156))) else (some (x7_1, false))) = some (r1, r2) := H
                have A13 := Aside0.mk A130
                clear A130
                by_cases c14 : t155 = true
                · subst c14
                  have H1 : ((slices_isNaN_int.f a1).bind fun t156 => (some (x7_1, t156))) = some (r1, r2) := by rw [if_pos rfl] at H; exact H
                  clear H
                  have H := H1
                  clear H1
                  replace H := Option.bind_eq_some_iff.mp H
                  obtain ⟨t156, A150, H⟩ := H
                  replace H : (some (x7_1, t156)) = some (r1, r2) := H
                  have A15 := Aside0.mk A150
                  clear A150
                  simp only [Option.some.injEq, Prod.mk.injEq] at H
                  obtain ⟨rfl, rfl⟩ := H
                  have p153 : 0 ≤ (x7_1 : Int) := of_decide_eq_true (by first | (with_reducible assumption) | assumption)
                  have q153 : x7_1 < (l0.length : Int) := of_decide_eq_true (by first | (with_reducible assumption) | assumption)
                  obtain ⟨ad153, e153, hx153_0⟩ := Kd.at_int HR0.out x7_1 p153 q153
                  cases e153
                  replace p153 := eq_true p153
                  replace q153 := eq_true q153
                  have p154 : 0 ≤ (x7_1 : Int) := of_decide_eq_true (by first | (with_reducible assumption) | assumption)
                  have q154 : x7_1 < (l0.length : Int) := of_decide_eq_true (by first | (with_reducible assumption) | assumption)
                  obtain ⟨ad154, e154, hx154_0⟩ := Kd.at_int HR0.out x7_1 p154 q154
                  obtain rfl : ad153 = ad154 := (by injection e154)
                  replace p154 := eq_true p154
                  replace q154 := eq_true q154
                  go_wp2_with (first | (go_at_call 80; (with_reducible refine (slices_isNaN_int.calls (rd l0 x7_1) true _ A13.out).mono ?_); rintro e w' ⟨rfl, ⟨nd, rfl⟩⟩) | (go_at_call 80; (with_reducible refine (slices_isNaN_int.calls a1 t156 _ A15.out).mono ?_); rintro e w' ⟨rfl, ⟨nd, rfl⟩⟩))
                  go_ret2
                  exact ⟨by first | rfl | (simp; done) | (simp [*]; done), by repeat (first | exact Drawn0.refl _ | apply Drawn0.step)⟩
                · replace c14 := Bool.eq_false_iff.mpr c14
                  subst c14
                  have H1 : (some (x7_1, false)) = some (r1, r2) := by rw [if_neg (show ¬ (false = true) by decide)] at H; exact H
                  clear H
                  have H := H1
                  clear H1
                  simp only [Option.some.injEq, Prod.mk.injEq] at H
                  obtain ⟨rfl, rfl⟩ := H
                  have p153 : 0 ≤ (x7_1 : Int) := of_decide_eq_true (by first | (with_reducible assumption) | assumption)
                  have q153 : x7_1 < (l0.length : Int) := of_decide_eq_true (by first | (with_reducible assumption) | assumption)
                  obtain ⟨ad153, e153, hx153_0⟩ := Kd.at_int HR0.out x7_1 p153 q153
                  cases e153
                  replace p153 := eq_true p153
                  replace q153 := eq_true q153
                  have p154 : 0 ≤ (x7_1 : Int) := of_decide_eq_true (by first | (with_reducible assumption) | assumption)
                  have q154 : x7_1 < (l0.length : Int) := of_decide_eq_true (by first | (with_reducible assumption) | assumption)
                  obtain ⟨ad154, e154, hx154_0⟩ := Kd.at_int HR0.out x7_1 p154 q154
                  obtain rfl : ad153 = ad154 := (by injection e154)
                  replace p154 := eq_true p154
                  replace q154 := eq_true q154
                  go_wp2_with (first | (go_at_call 80; (with_reducible refine (slices_isNaN_int.calls (rd l0 x7_1) false _ A13.out).mono ?_); rintro e w' ⟨rfl, ⟨nd, rfl⟩⟩))
                  go_ret2
                  exact ⟨by first | rfl | (simp; done) | (simp [*]; done), by repeat (first | exact Drawn0.refl _ | apply Drawn0.step)⟩
            · rw [if_neg c11] at H
              exact absurd H (by simp)
          · rw [if_neg c10] at H
            exact absurd H (by simp)
        · rw [if_neg c9] at H
          have c9b0 : decide (x7_1 < (l0.length : Int)) = false := decide_eq_false c9
          clear c9
          simp only [Option.some.injEq, Prod.mk.injEq] at H
          obtain ⟨rfl, rfl⟩ := H
          go_wp2
          go_ret2
          exact ⟨by first | rfl | (simp; done) | (simp [*]; done), by repeat (first | exact Drawn0.refl _ | apply Drawn0.step)⟩

-- NOT PRINTED: function 81 (slices_Clip_int_int)
end

section
/-! ### impl_clone_int: function 37 -/
theorem impl_clone_int.clip (A0 : Option Addr) (n c : Nat) (w : World) (hn : n ≤ c) :
    Calls Try.prog 81 #[.slice A0 n c] w fun e w' => e = .returned (.slice A0 n n) ∧ w' = w := by
  have hu22 := Try.underlying22
  have h0 : decide ((0 : Int) ≤ (n : Int)) = true := decide_eq_true (by omega)
  have h1 : decide ((n : Int) ≤ (c : Int)) = true := decide_eq_true (by omega)
  have h2 : decide ((n : Int) ≤ (n : Int)) = true := decide_eq_true (by omega)
  go_enter Try.func81, Try.ntmps81
  go_wp2
  go_ret
  exact ⟨rfl, rfl⟩
def impl_clone_int.f (l0 : List (Int)) : Option ((List (Int))) := if l0.length ≤ 2000000 then some l0 else none
theorem impl_clone_int.calls (A0 : Option Addr) (c0 : Nat) (l0 : List (Int)) (r : List (Int)) (w : World) (hr0 : Kd.C (Kd.int .i64) w A0 l0.length l0) (hc0 : l0.length ≤ c0) (h : impl_clone_int.f l0 = some r) :
    Calls Try.prog 37 #[.slice A0 l0.length c0] w fun e w' => ∃ v0_ : Value, e = .returned (v0_) ∧ Kd.R (Kd.int .i64) 3 w' w.heap.size (fun _ => True) v0_ r ∧ Below w.heap.size w w' := by
  have hu22 := Try.underlying22
  have hu3 := Try.underlying3
  have HR0 := Aside0.mk hr0
  have HB := Aside0.mk (Below.refl w.heap.size w)
  clear hr0
  unfold impl_clone_int.f at h
  by_cases hl : l0.length ≤ 2000000
  · rw [if_pos hl] at h
    obtain rfl := Option.some.inj h
    by_cases h0 : l0.length = 0
    · have hz : ((l0.length : Int) == 0) = true := by simp [h0]
      have hnil : l0 = [] := List.length_eq_zero_iff.1 h0
      go_enter Try.func37, Try.ntmps37
      go_wp2
      go_ret
      refine ⟨_, rfl, ?_, HB.out⟩
      first | exact Kd.R_nil _ _ _ _ _ | (rw [hnil]; exact Kd.R_nil _ _ _ _ _)
    · have hz : ((l0.length : Int) == 0) = false := by simp [h0]
      go_enter Try.func37, Try.ntmps37
      go_wp2_with (first | ((with_reducible refine gate_builtin (b := .append) rfl ?_); at_builtin; refine Kd.R_append_rows (Kd.int .i64) (w0 := w) w.heap.size rfl _ (.tmp 6) 22 3 (.int .i64 0) 8 rfl Try.underlying22 (by kernel_rfl) rfl (by decide) (by omega) (.slice none 0 0) [] l0 _ _ _ (fun _ => True) (fun _ => False) rfl rfl (Kd.R_nil _ _ _ _ _) HR0.out (fun _ _ h => h) (fun _ h => h.elim) (fun _ _ => trivial) HB.out (Nat.le_refl _) (by simp only [List.length_nil]; omega) ?_; intro v1 w1 ho hb hg hat; rw [List.nil_append] at ho; have HO := Aside0.mk ho; have HB1 := Aside0.mk hb; clear ho hb hg hat; obtain ⟨A1, c1, e1⟩ := Kd.R_slice HO.out; subst e1) | (go_at_call 81; (with_reducible refine (impl_clone_int.clip _ _ _ _ ?sideq).mono ?_); (case sideq => exact (Kd.R_reads' HO.out).2.1); rintro e w2 ⟨rfl, rfl⟩))
      go_ret
      exact ⟨_, rfl, Kd.R_clip HO.out, HB1.out⟩
  · rw [if_neg hl] at h
    cases h

-- NOT PRINTED: function 82 (slices_overlaps_int)
end

section
/-! ### impl_CutMore: function 10 -/
def impl_CutMore.ren : Go.Shelf.Ren := ⟨fun n => if n = 21 then 38 else if n = 27 then 82 else if n = 28 then 83 else if n = 35 then 111 else if n = 39 then 117 else n, fun t => if t = 22 then 22 else if t = 3 then 3 else if t = 4 then 4 else t, fun g => g⟩
set_option maxRecDepth 100000 in
theorem impl_CutMore.lays : Lays2.n21 Try.prog impl_CutMore.ren where
  mixed := by kernel_rfl
  f21 := by kernel_rfl
  f27 := by kernel_rfl
  f28 := by kernel_rfl
  f35 := by kernel_rfl
  f39 := by kernel_rfl
  t0 := by kernel_rfl
  a0 := fun w => by kernel_rfl
  z0 := fun w => by kernel_rfl
  v0 := fun w => by kernel_rfl
  t3 := by kernel_rfl
  a3 := fun w => by kernel_rfl
  z3 := fun w => by kernel_rfl
  v3 := fun w => by kernel_rfl
  t4 := by kernel_rfl
  a4 := fun w => by kernel_rfl
  z4 := fun w => by kernel_rfl
  v4 := fun w => by kernel_rfl
  t22 := by kernel_rfl
  a22 := fun w => by kernel_rfl
  z22 := fun w => by kernel_rfl
  v22 := fun w => by kernel_rfl
  i3 := by kernel_rfl
def impl_CutMore.put (l : List Int) (i : Nat) (x : Int) : List Int := l.take i ++ x :: l.drop i
theorem impl_CutMore.put_length (l : List Int) (i : Nat) (x : Int) (hi : i ≤ l.length) : (impl_CutMore.put l i x).length = l.length + 1 := by
  unfold impl_CutMore.put
  simp only [List.length_append, List.length_take, List.length_cons, List.length_drop]
  omega
theorem impl_CutMore.put_lt (l : List Int) (i : Nat) (x : Int) (hi : i ≤ l.length) (j : Nat) (hj : j < i) : (impl_CutMore.put l i x).getD j 0 = l.getD j 0 := by
  unfold impl_CutMore.put
  rw [List.getD_eq_getElem?_getD, List.getD_eq_getElem?_getD, List.getElem?_append_left (by rw [List.length_take]; omega), List.getElem?_take, if_pos hj]
theorem impl_CutMore.put_eq (l : List Int) (i : Nat) (x : Int) (hi : i ≤ l.length) : (impl_CutMore.put l i x).getD i 0 = x := by
  unfold impl_CutMore.put
  rw [List.getD_eq_getElem?_getD, List.getElem?_append_right (by rw [List.length_take]; omega), List.length_take, Nat.min_eq_left hi, Nat.sub_self]
  rfl
theorem impl_CutMore.put_gt (l : List Int) (i : Nat) (x : Int) (hi : i ≤ l.length) (j : Nat) (hj : i < j) : (impl_CutMore.put l i x).getD j 0 = l.getD (j - 1) 0 := by
  unfold impl_CutMore.put
  rw [List.getD_eq_getElem?_getD, List.getD_eq_getElem?_getD, List.getElem?_append_right (by rw [List.length_take]; omega), List.length_take, Nat.min_eq_left hi, show j - i = (j - 1 - i) + 1 by omega, List.getElem?_cons_succ, List.getElem?_drop, show i + (j - 1 - i) = j - 1 by omega]
theorem impl_CutMore.setCells_below {w0 : World} {base b : Nat} (hb : base ≤ b) : ∀ (vs : List Value) (o : Nat) (W : World), Below base w0 W → Below base w0 (W.setCells b o vs)
  | [], _, _, h => h
  | v :: r, o, W, h => impl_CutMore.setCells_below hb r (o + 1) _ (h.setCell hb v)
theorem impl_CutMore.nums_get (l : List Int) (j : Nat) (v : Value) (h : (nums .i64 l)[j]? = some v) : j < l.length ∧ v = .int .i64 (l.getD j 0) := by
  unfold nums at h
  rw [List.getElem?_map] at h
  obtain ⟨y, hy, rfl⟩ := Option.map_eq_some_iff.1 h
  obtain ⟨hl, rfl⟩ := List.getElem?_eq_some_iff.1 hy
  exact ⟨hl, by rw [List.getD_eq_getElem?_getD, hy]; rfl⟩
/-- A row told cell by cell. -/
theorem impl_CutMore.reads {W : World} {b n : Nat} {l : List Int} (hl : l.length = n) (hn : n ≤ 1001) (h : ∀ j, j < n → W.cell? ⟨b, j, none⟩ = some (.int .i64 (l.getD j 0))) : Kd.C (Kd.int .i64) W (some ⟨b, 0, none⟩) n l :=
  Kd.C_of_reads (d := (0 : Int)) ⟨hl, by omega, fun _ => ⟨_, rfl, fun j hj => by rw [Addr.add_lit, Nat.zero_add]; exact h j hj⟩⟩
/-- What is put in a row at place i, told cell by cell. -/
theorem impl_CutMore.reads_put {W : World} {b n i : Nat} {l : List Int} {x : Int} (hl : l.length = n) (hn : n ≤ 1000) (hi : i ≤ n) (h1 : ∀ j, j < i → W.cell? ⟨b, j, none⟩ = some (.int .i64 (l.getD j 0))) (h2 : W.cell? ⟨b, i, none⟩ = some (.int .i64 x)) (h3 : ∀ j, i ≤ j → j < n → W.cell? ⟨b, j + 1, none⟩ = some (.int .i64 (l.getD j 0))) :
    Kd.C (Kd.int .i64) W (some ⟨b, 0, none⟩) (n + 1) (impl_CutMore.put l i x) := by
  refine impl_CutMore.reads (by rw [impl_CutMore.put_length l i x (by omega), hl]) (by omega) (fun j hj => ?_)
  rcases Nat.lt_trichotomy j i with h | h | h
  · rw [impl_CutMore.put_lt l i x (by omega) j h]; exact h1 j h
  · subst h; rw [impl_CutMore.put_eq l j x (by omega)]; exact h2
  · rw [impl_CutMore.put_gt l i x (by omega) j h]
    have := h3 (j - 1) (by omega) (by omega)
    rw [show j - 1 + 1 = j by omega] at this
    exact this
theorem impl_CutMore.cells_two {W : World} {b n i : Nat} {l : List Int} {x : Int} (hl : l.length = n) (hn : n ≤ 1000) (hi : i < n) (hc : ∀ j, j < i → W.cell? ⟨b, j, none⟩ = some (.int .i64 (l.getD j 0))) (hs : ∀ j, j < n + 1 → (W.cell? ⟨b, j, none⟩).isSome = true) :
    Kd.C (Kd.int .i64) ((W.setCells b (i + 1) ((nums .i64 l).drop i)).setCells b i [.int .i64 x]) (some ⟨b, 0, none⟩) (n + 1) (impl_CutMore.put l i x) ∧
    Kd.C (Kd.int .i64) ((W.setCells b i [.int .i64 x]).setCells b (i + 1) ((nums .i64 l).drop i)) (some ⟨b, 0, none⟩) (n + 1) (impl_CutMore.put l i x) := by
  have hdl : ((nums .i64 l).drop i).length = n - i := by rw [List.length_drop, nums_length, hl]
  have hd : ∀ j (h : j < ((nums .i64 l).drop i).length), ((nums .i64 l).drop i)[j] = .int .i64 (l.getD (i + j) 0) := by
    intro j h
    have h2 : ((nums .i64 l).drop i)[j]? = some ((nums .i64 l).drop i)[j] := List.getElem?_eq_getElem h
    rw [List.getElem?_drop] at h2
    exact (impl_CutMore.nums_get l (i + j) _ h2).2
  have hs1 : ∀ j, j < n + 1 → ((W.setCells b (i + 1) ((nums .i64 l).drop i)).cell? ⟨b, j, none⟩).isSome = true := fun j hj => isSome_setCells b _ _ _ (fun t ht => hs _ (by omega)) _ (hs j hj)
  have hs2 : ∀ j, j < n + 1 → ((W.setCells b i [.int .i64 x]).cell? ⟨b, j, none⟩).isSome = true := fun j hj => isSome_setCells b _ _ _ (fun t ht => hs _ (by simp at ht; omega)) _ (hs j hj)
  constructor
  · refine impl_CutMore.reads_put hl hn (by omega) (fun j hj => ?_) ?_ (fun j h1 h2 => ?_)
    · rw [World.cell?_setCells_out b _ _ _ _ (fun _ _ => Or.inl (show j < i by omega)), World.cell?_setCells_out b _ _ _ _ (fun _ _ => Or.inl (show j < i + 1 by omega))]
      exact hc j hj
    · exact World.cell?_setCells_in b [.int .i64 x] i _ (fun t ht => hs1 _ (by simp at ht; omega)) 0 (by simp)
    · rw [World.cell?_setCells_out b _ _ _ _ (fun _ _ => Or.inr (show i + [Value.int .i64 x].length ≤ j + 1 by simp; omega))]
      have := World.cell?_setCells_in b ((nums .i64 l).drop i) (i + 1) W (fun t ht => hs _ (by omega)) (j - i) (by omega)
      rw [hd, show i + 1 + (j - i) = j + 1 by omega, show i + (j - i) = j by omega] at this
      exact this
  · refine impl_CutMore.reads_put hl hn (by omega) (fun j hj => ?_) ?_ (fun j h1 h2 => ?_)
    · rw [World.cell?_setCells_out b _ _ _ _ (fun _ _ => Or.inl (show j < i + 1 by omega)), World.cell?_setCells_out b _ _ _ _ (fun _ _ => Or.inl (show j < i by omega))]
      exact hc j hj
    · rw [World.cell?_setCells_out b _ _ _ _ (fun _ _ => Or.inl (show i < i + 1 by omega))]
      exact World.cell?_setCells_in b [.int .i64 x] i _ (fun t ht => hs _ (by simp at ht; omega)) 0 (by simp)
    · have := World.cell?_setCells_in b ((nums .i64 l).drop i) (i + 1) (W.setCells b i [.int .i64 x]) (fun t ht => hs2 _ (by omega)) (j - i) (by omega)
      rw [hd, show i + 1 + (j - i) = j + 1 by omega, show i + (j - i) = j by omega] at this
      exact this
theorem impl_CutMore.shape_of {w : World} {g : Nat} {cur : Array Value} {e : TypeId} (h : w.heap[g]? = some (.cells cur e (0, 0))) : w.shape? g = some (e, cur.size) := by
  unfold World.shape?
  rw [h]
set_option maxHeartbeats 8000000 in
set_option maxRecDepth 100000 in
/-- slices.Insert of one number into a row of the call's own (the library's walk is the shelf's). -/
theorem impl_CutMore.insert (base : Nat) (A0 : Option Addr) (c0 : Nat) (l0 : List Int) (x : Int) (i : Nat) (hi : i ≤ l0.length) (hl : l0.length ≤ 1000) (w w0 : World) (HO : Kd.R (Kd.int .i64) 3 w base (fun _ => True) (.slice A0 l0.length c0) l0) (HB : Below base w0 w) (hbase : base ≤ w.heap.size)
    (baseV cV : Nat) (AV : Option Addr) (okV : Nat → Prop) (HV : Kd.R (Kd.int .i64) 3 w baseV okV (.slice AV 1 cV) [x]) (hne : ∀ k, (Value.slice AV 1 cV).ownBlock = some k → (Value.slice A0 l0.length c0).ownBlock ≠ some k) :
    Calls Try.prog 38 #[.slice A0 l0.length c0, .int .i64 i, .slice AV 1 cV] w fun e w' => ∃ A c, e = .returned (.slice A (l0.length + 1) c) ∧ l0.length + 1 ≤ c ∧ Kd.C (Kd.int .i64) w' A (l0.length + 1) (impl_CutMore.put l0 i x) ∧ Below base w0 w' := by
  have hnv := (Kd.R_reads' HV).2.1
  obtain ⟨_, innerV, ⟨_, hownV⟩, hrepV⟩ := HV
  rcases hownV with ⟨_, h0⟩ | ⟨vb, capV, curV, hvV, _, hheapV, hncV, hcmV, hcsV, htkV⟩
  · cases h0
  injection hvV with hAV h2V h3V
  subst hAV
  have hi0 : innerV = [.int .i64 x] := by
    have h1 := hrepV.1
    have h2 : (innerV.drop (0 * 1)).take 1 = [.int .i64 x] := hrepV.2 0 x rfl
    have h3 : innerV.length = 1 := h1
    rw [Nat.zero_mul, List.drop_zero, List.take_of_length_le (by omega)] at h2
    exact h2
  have hvs : ∀ j v, ([.int .i64 x] : List Value)[j]? = some v → w.cell? ⟨vb, 0 + j, none⟩ = some v := by
    intro j v hj
    rw [Nat.zero_add, blk_cell hheapV j]
    have hj1 : j < 1 := by
      have := (List.getElem?_eq_some_iff.1 hj).1
      simpa using this
    rw [hi0] at htkV
    have e1 : (curV.toList.take 1)[j]? = some v := by rw [show (1 : Nat) = [x].length * (Kd.int .i64).sz from rfl, htkV]; exact hj
    rw [List.getElem?_take, if_pos hj1, Array.getElem?_toList] at e1
    exact e1
  have hvlt : vb < w.heap.size := (Array.getElem?_eq_some_iff.1 hheapV).1
  obtain ⟨n, hn⟩ : ∃ n, l0.length = n := ⟨_, rfl⟩
  have hcl : (nums .i64 l0).length = n := by rw [nums_length, hn]
  have h1c : ∀ v ∈ nums .i64 l0, v.oneCell' = true := by
    intro v hv
    unfold nums at hv
    obtain ⟨y, _, rfl⟩ := List.mem_map.1 hv
    rfl
  have h1v : ∀ v ∈ ([.int .i64 x] : List Value), v.oneCell' = true := by
    intro v hv
    rw [List.mem_singleton.1 hv]
    rfl
  have hread := (Kd.R_reads' HO).2.2
  obtain ⟨_, inner, ⟨_, hown⟩, _⟩ := HO
  rw [hn] at hi hl hown hread hne ⊢
  rcases hown with ⟨hv0, h0⟩ | ⟨gb, cap, cur, hv, hgb, hheap, hncap, hcm, hcs, htk⟩
  · injection hv0 with hA h2 h3
    subst hA h3 h0
    have hi0' : i = 0 := by omega
    subst hi0'
    have hnil : l0 = [] := List.length_eq_zero_iff.1 hn
    refine (Any2.slices_Insert_int_end_grow impl_CutMore.lays none 0 0 vb 0 1 cV (nums .i64 l0) [.int .i64 x] w (by omega) (by omega) (by omega) (by omega) hcl rfl (fun _ => rfl) (fun a ha => by cases ha) hvs h1v).mono ?_
    rintro e w' ⟨rfl, rfl⟩
    refine ⟨_, _, rfl, grownCap_ge w _ _ _, ?_, ((HB.drew).alloc hbase _)⟩
    refine impl_CutMore.reads_put hn (by omega) (by omega) (fun j hj => by omega) ?_ (fun j h1 h2 => by omega)
    rw [World.cell?_alloc_at (w := w.drew) _ _ w.heap.size 0 rfl]
    rw [hnil, Array.getElem?_append_left (by simp [nums])]
    rfl
  · injection hv with hA h2 h3
    subst hA h3
    have hsz : c0 ≤ cur.size := by rw [show (Kd.int .i64).sz = 1 from rfl, Nat.mul_one] at hcs; exact hcs
    have hc63 : c0 ≤ 9223372036854775807 := by unfold maxLen at hcm; omega
    have hglt : gb < w.heap.size := (Array.getElem?_eq_some_iff.1 hheap).1
    have hvg : vb ≠ gb := by
      intro e
      exact hne vb rfl (by rw [e]; rfl)
    have hall : ∀ j, (hj : j < n) → w.cell? ⟨gb, j, none⟩ = some (.int .i64 (l0.getD j 0)) := by
      intro j hj
      have h := Kd.reads_of_C (enc := Value.int .i64) (d := (0 : Int)) (h1 := fun _ => rfl) hread
      obtain ⟨ad, ha, hc⟩ := h.2.2 (by omega)
      obtain rfl : (⟨gb, 0, none⟩ : Addr) = ad := Option.some.inj ha
      have := hc j hj
      rw [Addr.add_lit, Nat.zero_add] at this
      exact this
    have hcells : ∀ j v, (nums .i64 l0)[j]? = some v → w.cell? ⟨gb, 0 + j, none⟩ = some v := by
      intro j v hj
      obtain ⟨h1, h2⟩ := impl_CutMore.nums_get l0 j v hj
      rw [Nat.zero_add, h2]
      exact hall j (by omega)
    have hsome : ∀ j, j < cur.size → (w.cell? ⟨gb, j, none⟩).isSome = true := fun j hj => by rw [blk_cell hheap j, Array.getElem?_eq_getElem hj]; rfl
    have hbw : ∀ W, Below base w0 W → ∀ o vs, Below base w0 (W.setCells gb o vs) := fun W hW o vs => impl_CutMore.setCells_below hgb vs o W hW
    have hbN : ∀ W, Below base w0 W → ∀ o vs, Below base w0 (W.setCells w.heap.size o vs) := fun W hW o vs => impl_CutMore.setCells_below hbase vs o W hW
    by_cases hroom : n + 1 ≤ c0
    · by_cases hin : i < n
      · refine (Any2.slices_Insert_int_shift impl_CutMore.lays gb 0 n c0 i vb 0 1 cV (nums .i64 l0) [.int .i64 x] w hin (by omega) hroom hc63 hvg hcl rfl hcells (fun j hj => by rw [Nat.zero_add]; exact hsome j (by omega)) (fun j hj => blk_frozen hheap _) hvs h1c h1v 3 3 curV.size cur.size (impl_CutMore.shape_of hheapV) (impl_CutMore.shape_of hheap) (by omega) (blk_frozen hheapV _) (blk_frozen hheapV _)).mono ?_
        rintro e w' ⟨rfl, rfl⟩
        refine ⟨_, _, rfl, hroom, ?_, hbw _ (hbw _ HB.drew _ _) _ _⟩
        rw [Nat.zero_add, Nat.zero_add]
        exact (impl_CutMore.cells_two (W := w.drew) hn (by omega) hin (fun j hj => hall j (by omega)) (fun j hj => hsome j (by omega))).1
      · have hin' : i = n := by omega
        subst hin'
        refine (Any2.slices_Insert_int_end_room impl_CutMore.lays gb 0 i c0 vb 0 1 cV [.int .i64 x] w (by omega) hroom hc63 rfl (fun j hj => by rw [Nat.zero_add]; exact hsome _ (by omega)) (fun j hj => blk_frozen hheap _) hvs h1v).mono ?_
        rintro e w' ⟨rfl, rfl⟩
        refine ⟨_, _, rfl, hroom, ?_, hbw _ HB _ _⟩
        refine impl_CutMore.reads_put hn (by omega) (by omega) (fun j hj => ?_) ?_ (fun j h1 h2 => by omega)
        · rw [World.cell?_setCells_out gb _ _ _ _ (fun _ _ => Or.inl (show j < 0 + i by omega))]
          exact hall j hj
        · have := World.cell?_setCells_in gb [.int .i64 x] (0 + i) w (fun t ht => hsome _ (by simp at ht; omega)) 0 (by simp)
          rw [Nat.zero_add, Nat.add_zero] at this
          rw [Nat.zero_add]
          exact this
    · by_cases hin : i < n
      · refine (Any2.slices_Insert_int_grow impl_CutMore.lays gb 0 n c0 i vb 0 1 cV (nums .i64 l0) [.int .i64 x] w hin (by omega) hncap (by omega) (by omega) hcl rfl hcells hvs h1c h1v).mono ?_
        rintro e w' ⟨rfl, rfl⟩
        have hge := grownCap_ge w (n + 1) c0 3
        refine ⟨_, _, rfl, hge, ?_, hbN _ ((hbN _ ((HB.alloc hbase _).drew) _ _).drew) _ _⟩
        have key := fun (W : World) (h1 : ∀ j, j < i → W.cell? ⟨w.heap.size, j, none⟩ = some (.int .i64 (l0.getD j 0))) (h2 : ∀ j, j < n + 1 → (W.cell? ⟨w.heap.size, j, none⟩).isSome = true) => (impl_CutMore.cells_two (W := W) (x := x) hn (by omega) hin h1 h2).2
        obtain ⟨ROW, hROW⟩ : ∃ ROW : Array Value, ROW = ((nums .i64 l0).take i).toArray ++ Builtin.zeroCells (Value.int .i64 0).cells (n + 1 - i) ++ Builtin.zeroCells (Value.int .i64 0).cells (grownCap w (n + 1) c0 (impl_CutMore.ren.t 3) - (n + 1)) := ⟨_, rfl⟩
        have hRs : n + 1 ≤ ROW.size := by
          rw [hROW]
          simp [Builtin.zeroCells, Value.cells, nums_length]
          omega
        have hRc : ∀ j, j < i → ROW[j]? = some (.int .i64 (l0.getD j 0)) := by
          intro j hj
          have ht : ((nums .i64 l0).take i).length = i := by rw [List.length_take, hcl]; omega
          rw [hROW, Array.append_assoc, Array.getElem?_append_left (by simp [nums_length]; omega), List.getElem?_toArray, List.getElem?_take, if_pos hj]
          unfold nums
          rw [List.getElem?_map, List.getElem?_eq_getElem (by omega), List.getD_eq_getElem?_getD, List.getElem?_eq_getElem (by omega)]
          rfl
        have := key (w.alloc (.cells ROW (impl_CutMore.ren.t 3))) (fun j hj => by rw [World.cell?_alloc_at ROW _ w.heap.size j rfl]; exact hRc j hj) (fun j hj => by rw [World.cell?_alloc_at ROW _ w.heap.size j rfl, Array.getElem?_eq_getElem (by omega)]; rfl)
        have e1 : ∀ (W : World) o vs, (W.drew).setCells w.heap.size o vs = (W.setCells w.heap.size o vs).drew := fun W o vs => (drew_setCells _ vs o W).symm
        rw [← hROW, e1, e1, e1]
        exact Kd.C_drew (Kd.C_drew this)
      · have hin' : i = n := by omega
        subst hin'
        refine (Any2.slices_Insert_int_end_grow impl_CutMore.lays (some ⟨gb, 0, none⟩) i c0 vb 0 1 cV (nums .i64 l0) [.int .i64 x] w (by omega) hncap (by omega) (by omega) hcl rfl (fun h => by cases h) (fun a ha j v hj => by obtain rfl : (⟨gb, 0, none⟩ : Addr) = a := Option.some.inj ha; rw [Addr.add_lit]; exact hcells j v hj) hvs h1v).mono ?_
        rintro e w' ⟨rfl, rfl⟩
        refine ⟨_, _, rfl, grownCap_ge w _ _ _, ?_, ((HB.drew).alloc hbase _)⟩
        refine impl_CutMore.reads_put hn (by omega) (by omega) (fun j hj => ?_) ?_ (fun j h1 h2 => by omega)
        · rw [World.cell?_alloc_at (w := w.drew) _ _ w.heap.size j rfl, Array.getElem?_append_left (by simp [nums_length]; omega), List.getElem?_toArray, List.getElem?_append_left (by omega)]
          unfold nums
          rw [List.getElem?_map, List.getElem?_eq_getElem (by omega), List.getD_eq_getElem?_getD, List.getElem?_eq_getElem (by omega)]
          rfl
        · rw [World.cell?_alloc_at (w := w.drew) _ _ w.heap.size i rfl, Array.getElem?_append_left (by simp [nums_length]; omega), List.getElem?_toArray, List.getElem?_append_right (by omega), hcl, Nat.sub_self]
          rfl
set_option maxRecDepth 100000 in
theorem impl_CutMore.eql_none (n c : Nat) (w : World) : (binOp BinOp.eql 22 (Value.slice none n c) (Value.slice none 0 0)).run Try.prog w = .ok (.bool true) w := by
  first | rfl | kernel_rfl | (simp [go_sem, binOp, Try.underlying22]; done)
set_option maxRecDepth 100000 in
theorem impl_CutMore.eql_some (a : Addr) (n c : Nat) (w : World) : (binOp BinOp.eql 22 (Value.slice (some a) n c) (Value.slice none 0 0)).run Try.prog w = .ok (.bool false) w := by
  first | rfl | kernel_rfl | (simp [go_sem, binOp, Try.underlying22]; done)
attribute [local go_sem] impl_CutMore.eql_none impl_CutMore.eql_some
set_option maxHeartbeats 8000000 in
set_option maxRecDepth 100000 in
theorem impl_CutMore.clone (A0 : Option Addr) (c0 : Nat) (l0 : List Int) (w : World) (hr0 : Kd.C (Kd.int .i64) w A0 l0.length l0) (hc0 : l0.length ≤ c0) (hl : l0.length ≤ 1000) :
    Calls Try.prog 39 #[.slice A0 l0.length c0] w fun e w' => ∃ v0_ : Value, e = .returned (v0_) ∧ Kd.R (Kd.int .i64) 3 w' w.heap.size (fun _ => True) v0_ l0 ∧ Below w.heap.size w w' := by
  have hu22 := Try.underlying22
  have hu3 := Try.underlying3
  have HR0 := Aside0.mk hr0
  have HB := Aside0.mk (Below.refl w.heap.size w)
  cases A0 with
  | none =>
    have hnil : l0 = [] := by
      by_cases h : 0 < l0.length
      · obtain ⟨ad, hA, _⟩ := hr0.2.2 h
        cases hA
      · exact List.length_eq_zero_iff.1 (by omega)
    clear hr0
    subst hnil
    go_enter Try.func39, Try.ntmps39
    go_wp2
    go_ret
    exact ⟨_, rfl, Kd.R_nil _ _ _ _ _, HB.out⟩
  | some a =>
    clear hr0
    go_enter Try.func39, Try.ntmps39
    go_wp2_with (first | ((with_reducible refine gate_dst (N := 5) rfl ?_); refine Kd.R_lit (Kd.int .i64) _ 3 ?hg (N := 5) ?hd (xs := ([] : List Int)) (inner := []) (ok := fun _ => True) (okp := fun _ => True) ?hr ?hp (fun _ hk => hk) trivial (Below.refl _ _) (Nat.le_refl _) (by simp) ?_; (case hd => rfl); (case hg => rfl); (case hr => first | (go_simp; done) | (go_simp; rfl)); (case hp => exact (Reps.none _ _)); intro v5 w5 ho5 hb hg_ hnew_; clear hg_ hnew_; have HO5 := Aside0.mk ho5; have HR5 := Aside0.mk (Kd.C_below HR0.out hb); have HB5 := Aside0.mk hb; clear ho5 hb) | ((with_reducible refine gate_builtin (b := .append) rfl ?_); at_builtin; refine Kd.R_append_rows (Kd.int .i64) (w0 := w) w.heap.size rfl (.tmp 5) (.tmp 6) 22 3 (.int .i64 0) 8 rfl Try.underlying22 (by kernel_rfl) rfl (by decide) (by omega) v5 [] l0 _ _ _ (fun _ => True) (fun _ => False) rfl rfl HO5.out HR5.out (fun _ _ h => h) (fun _ h => h.elim) (fun _ _ => trivial) HB5.out (below_size HB5.out) (by simp only [List.length_nil]; omega) ?_; intro v1 w1 ho hb hg hat; rw [List.nil_append] at ho; have HO := Aside0.mk ho; have HB1 := Aside0.mk hb; clear ho hb hg hat))
    go_ret
    exact ⟨_, rfl, HO.out, HB1.out⟩
def impl_CutMore.f (k : Nat) (l0 : List Int) (a1 : Int) : Option (List Int × Bool) := (impl_CutsOk.f k l0).bind fun t1 => (if t1 = true then ((impl_numOk.f a1).bind fun t2 => (if t2 = true then ((slices_BinarySearch_int_int.f k l0 a1).bind fun bt => (if l0.length ≤ 1000 ∧ 0 ≤ bt.1 ∧ bt.1 ≤ (l0.length : Int) then (if bt.2 = true then some (l0, false) else (if l0.length = 4 then some (l0, false) else some (impl_CutMore.put l0 bt.1.toNat a1, true))) else none)) else some ([], false))) else some ([], false))
theorem impl_CutMore.mono : ∀ a0 a1 k, LeO (impl_CutMore.f k a0 a1) (impl_CutMore.f (k + 1) a0 a1) := by
  intro a0 a1 k
  unfold impl_CutMore.f
  repeat' first
      | (with_reducible exact impl_CutsOk.mono _ _)
      | (with_reducible exact slices_BinarySearch_int_int.mono _ _ _)
      | (with_reducible exact LeO.refl _)
      | (with_reducible exact LeO.none _)
      | (with_reducible refine LeO.ite ?_ ?_)
      | (with_reducible refine LeO.bind ?_ (fun _ => ?_))
      | exact LeO.none _
      | refine LeO.ite ?_ ?_
      | refine LeO.bind ?_ (fun _ => ?_)
set_option maxHeartbeats 8000000 in
set_option maxRecDepth 100000 in
theorem impl_CutMore.calls (k : Nat) (A0 : Option Addr) (c0 : Nat) (l0 : List Int) (a1 : Int) (r1 : List Int) (r2 : Bool) (w : World) (hr0 : Kd.C (Kd.int .i64) w A0 l0.length l0) (hc0 : l0.length ≤ c0) (h : impl_CutMore.f k l0 a1 = some (r1, r2)) :
    Calls Try.prog 10 #[.slice A0 l0.length c0, .int .i64 a1] w fun e w' => ∃ v0_ : Value, e = .returned (.tuple #[v0_, .bool r2]) ∧ Kd.R (Kd.int .i64) 3 w' w.heap.size (fun _ => True) v0_ r1 ∧ Below w.heap.size w w' := by
  have hu22 := Try.underlying22
  have HR0 := Aside0.mk hr0
  have HC0 := Aside0.mk hc0
  clear hr0 hc0
  unfold impl_CutMore.f at h
  obtain ⟨t1, ht1, h⟩ := Option.bind_eq_some_iff.mp h
  have HT1 := Aside0.mk ht1
  clear ht1
  cases t1 with
  | false =>
    rw [if_neg (by decide)] at h
    obtain ⟨rfl, rfl⟩ := Prod.mk.inj (Option.some.inj h)
    clear h
    go_enter Try.func10, Try.ntmps10
    go_wp2_with (first | (go_at_call 34; (with_reducible refine (impl_CutsOk.calls k A0 c0 l0 false _ HR0.out HC0.out HT1.out).mono ?_); rintro e w1 ⟨rfl, ⟨nd1, rfl⟩⟩))
    go_ret2
    exact ⟨_, rfl, Kd.R_nil _ _ _ _ _, pw_below_drewN (Below.refl _ _) _⟩
  | true =>
    rw [if_pos rfl] at h
    obtain ⟨t2, ht2, h⟩ := Option.bind_eq_some_iff.mp h
    have HT2 := Aside0.mk ht2
    clear ht2
    cases t2 with
    | false =>
      rw [if_neg (by decide)] at h
      obtain ⟨rfl, rfl⟩ := Prod.mk.inj (Option.some.inj h)
      clear h
      go_enter Try.func10, Try.ntmps10
      go_wp2_with (first | (go_at_call 34; (with_reducible refine (impl_CutsOk.calls k A0 c0 l0 true _ HR0.out HC0.out HT1.out).mono ?_); rintro e w1 ⟨rfl, ⟨nd1, rfl⟩⟩) | (go_at_call 35; (with_reducible refine (impl_numOk.calls a1 false _ HT2.out).mono ?_); rintro e w2 ⟨rfl, ⟨nd2, rfl⟩⟩))
      go_ret2
      exact ⟨_, rfl, Kd.R_nil _ _ _ _ _, by first | exact pw_below_drewN (Below.refl _ _) _ | exact pw_below_drewN (pw_below_drewN (Below.refl _ _) _) _⟩
    | true =>
      rw [if_pos rfl] at h
      obtain ⟨⟨b1, b2⟩, hbt, h⟩ := Option.bind_eq_some_iff.mp h
      have HBT := Aside0.mk hbt
      clear hbt
      by_cases hc : l0.length ≤ 1000 ∧ 0 ≤ b1 ∧ b1 ≤ (l0.length : Int)
      case neg => rw [if_neg hc] at h; cases h
      rw [if_pos hc] at h
      obtain ⟨hl, hb0, hb1⟩ := hc
      have hcf : Aside0 (impl_clone_int.f l0 = some l0) := ⟨by unfold impl_clone_int.f; rw [if_pos (by omega)]⟩
      cases b2 with
      | true =>
        rw [if_pos rfl] at h
        obtain ⟨rfl, rfl⟩ := Prod.mk.inj (Option.some.inj h)
        clear h hb0 hb1 hl
        go_enter Try.func10, Try.ntmps10
        go_wp2_with (first | (go_at_call 34; (with_reducible refine (impl_CutsOk.calls k A0 c0 l0 true _ HR0.out HC0.out HT1.out).mono ?_); rintro e w1 ⟨rfl, ⟨nd1, rfl⟩⟩) | (go_at_call 35; (with_reducible refine (impl_numOk.calls a1 true _ HT2.out).mono ?_); rintro e w2 ⟨rfl, ⟨nd2, rfl⟩⟩) | (go_at_call 36; (with_reducible refine (slices_BinarySearch_int_int.calls k A0 c0 l0 a1 b1 true _ ?sr HC0.out HBT.out).mono ?_); (case sr => exact by first | exact HR0.out | exact Kd.C_drewN HR0.out _); rintro e w3 ⟨rfl, ⟨nd3, rfl⟩⟩) | (go_at_call 37; (with_reducible refine (impl_clone_int.calls A0 c0 l0 l0 _ ?sr HC0.out hcf.out).mono ?_); (case sr => exact by first | exact HR0.out | exact Kd.C_drewN HR0.out _); rintro e w4 ⟨v4, rfl, ho4, hb4⟩; have HO4 := Aside0.mk ho4; have HB4 := Aside0.mk hb4; clear ho4 hb4))
        go_ret2
        exact ⟨_, rfl, HO4.out, by first | exact HB4.out | exact (pw_below_drewN (Below.refl _ _) _).trans HB4.out⟩
      | false =>
        rw [if_neg (show ¬ (false = true) by decide)] at h
        by_cases h4 : l0.length = 4
        · rw [if_pos h4] at h
          obtain ⟨rfl, rfl⟩ := Prod.mk.inj (Option.some.inj h)
          have h4b : ((l0.length : Int) == 4) = true := beq_iff_eq.2 (by omega)
          clear h hb0 hb1 hl h4
          go_enter Try.func10, Try.ntmps10
          go_wp2_with (first | (go_at_call 34; (with_reducible refine (impl_CutsOk.calls k A0 c0 l0 true _ HR0.out HC0.out HT1.out).mono ?_); rintro e w1 ⟨rfl, ⟨nd1, rfl⟩⟩) | (go_at_call 35; (with_reducible refine (impl_numOk.calls a1 true _ HT2.out).mono ?_); rintro e w2 ⟨rfl, ⟨nd2, rfl⟩⟩) | (go_at_call 36; (with_reducible refine (slices_BinarySearch_int_int.calls k A0 c0 l0 a1 b1 false _ ?sr HC0.out HBT.out).mono ?_); (case sr => exact by first | exact HR0.out | exact Kd.C_drewN HR0.out _); rintro e w3 ⟨rfl, ⟨nd3, rfl⟩⟩) | (go_at_call 37; (with_reducible refine (impl_clone_int.calls A0 c0 l0 l0 _ ?sr HC0.out hcf.out).mono ?_); (case sr => exact by first | exact HR0.out | exact Kd.C_drewN HR0.out _); rintro e w4 ⟨v4, rfl, ho4, hb4⟩; have HO4 := Aside0.mk ho4; have HB4 := Aside0.mk hb4; clear ho4 hb4))
          go_ret2
          exact ⟨_, rfl, HO4.out, by first | exact HB4.out | exact (pw_below_drewN (Below.refl _ _) _).trans HB4.out⟩
        · rw [if_neg h4] at h
          obtain ⟨rfl, rfl⟩ := Prod.mk.inj (Option.some.inj h)
          have h4b : ((l0.length : Int) == 4) = false := beq_eq_false_iff_ne.2 (by omega)
          obtain ⟨i, rfl⟩ : ∃ i : Nat, b1 = (i : Int) := ⟨b1.toNat, by omega⟩
          rw [Int.toNat_natCast]
          have HI : Aside0 (i ≤ l0.length) := ⟨by omega⟩
          have HL : Aside0 (l0.length ≤ 1000) := ⟨hl⟩
          obtain ⟨P, hP⟩ : ∃ P, impl_CutMore.put l0 i a1 = P := ⟨_, rfl⟩
          have HPP : Aside0 (impl_CutMore.put l0 i a1 = P) := ⟨hP⟩
          have HPL : Aside0 (P.length = l0.length + 1) := ⟨by rw [← hP, impl_CutMore.put_length l0 i a1 (by omega)]⟩
          have hcp : Aside0 (impl_clone_int.f P = some P) := ⟨by unfold impl_clone_int.f; rw [if_pos (by rw [HPL.out]; omega)]⟩
          rw [hP]
          clear h hb0 hb1 hl h4 hP
          go_enter Try.func10, Try.ntmps10
          go_wp2_with (first | (go_at_call 34; (with_reducible refine (impl_CutsOk.calls k A0 c0 l0 true _ HR0.out HC0.out HT1.out).mono ?_); rintro e w1 ⟨rfl, ⟨nd1, rfl⟩⟩) | (go_at_call 35; (with_reducible refine (impl_numOk.calls a1 true _ HT2.out).mono ?_); rintro e w2 ⟨rfl, ⟨nd2, rfl⟩⟩) | (go_at_call 36; (with_reducible refine (slices_BinarySearch_int_int.calls k A0 c0 l0 a1 (i : Int) false _ ?sr HC0.out HBT.out).mono ?_); (case sr => exact by first | exact HR0.out | exact Kd.C_drewN HR0.out _); rintro e w3 ⟨rfl, ⟨nd3, rfl⟩⟩) | (go_at_call 39; (with_reducible refine (impl_CutMore.clone A0 c0 l0 _ ?sr HC0.out HL.out).mono ?_); (case sr => exact by first | exact HR0.out | exact Kd.C_drewN HR0.out _); rintro e w4 ⟨v4, rfl, ho4, hb4⟩; obtain ⟨A4, c4, e4⟩ := Kd.R_slice ho4; subst e4; have HO4 : Aside0 (Kd.R (Kd.int .i64) 3 w4 w.heap.size (fun _ => True) (.slice A4 l0.length c4) l0) := ⟨ho4⟩; have HB4 : Aside0 (Below w.heap.size w w4) := ⟨by first | exact hb4 | exact (pw_below_drewN (Below.refl _ _) _).trans hb4⟩; clear ho4 hb4) | ((with_reducible refine gate_dst (N := 34) rfl ?_); refine Kd.R_lit (Kd.int .i64) _ 3 ?hg (N := 34) ?hd (xs := [a1]) (inner := [.int .i64 a1]) (ok := fun _ => True) (okp := fun _ => True) ?hr ?hp (fun _ _ => trivial) trivial (Below.refl _ _) (Nat.le_refl _) (by simp) ?_; (case hd => rfl); (case hg => rfl); (case hr => first | (go_simp; done) | (go_simp; rfl)); (case hp => exact Reps.snoc (Reps.none _ _) rfl rfl); intro v5 w5 ho5 hb5 hg_ hnew_; obtain ⟨A5, c5, e5⟩ := Kd.R_slice ho5; have e5' : v5 = .slice A5 1 c5 := e5; clear e5; subst e5'; have HO5 := Aside0.mk ho5; have HN5 := Aside0.mk hnew_; have HX5 := Aside0.mk (Kd.R_below HO4.out hb5); have HB5 := Aside0.mk (below_step HB4.out hb5); clear ho5 hb5 hg_ hnew_) | (go_at_call 38; (with_reducible refine (impl_CutMore.insert w.heap.size A4 c4 l0 a1 i HI.out HL.out _ w HX5.out HB5.out (below_size HB5.out) _ c5 A5 _ HO5.out ?hne).mono ?_); (case hne => exact fun k_ hk_ h4_ => by (obtain ⟨b_, hb1_, hb2_⟩ := HN5.out; rw [hb1_] at hk_; have h5_ := Kd.R_lt HO4.out k_ h4_; obtain rfl := Option.some.inj hk_; omega)); rintro e w6 ⟨A6, c6, rfl, hc6, ho6, hb6⟩; rw [HPP.out, ← HPL.out] at ho6; rw [← HPL.out] at hc6; have HO6 := Aside0.mk ho6; have HC6 := Aside0.mk hc6; have HB6 := Aside0.mk hb6; clear ho6 hc6 hb6) | (go_at_call 37; refine calls_of_args (args' := #[.slice A6 P.length c6]) (by first | rfl | (rw [HPL.out]) | (rw [HPL.out]; rfl)) ?_; (with_reducible refine (impl_clone_int.calls A6 c6 P P _ HO6.out HC6.out hcp.out).mono ?_); rintro e w7 ⟨v7, rfl, ho7, hb7⟩; have HO7 := Aside0.mk (Kd.R_lower ho7 (below_size HB6.out)); have HB7 := Aside0.mk (below_step HB6.out hb7); clear ho7 hb7))
          go_ret2
          exact ⟨_, rfl, HO7.out, HB7.out⟩
end

section
/-! ### laws_eqIntS: function 11 -/
def laws_eqIntS.l0 : Nat → List Int → List Int → Int → Option (Bool)
  | 0, _, _, _ => none
  | k + 1, x0, x1, x5 => if x5 < (x0.length : Int) then (if 0 ≤ x5 then (if x5 < (x1.length : Int) then (if (rd x0 x5) = (rd x1 x5) then (laws_eqIntS.l0 k x0 x1 (wrap64 (x5 + 1))) else (some false)) else (none)) else (none)) else (some true)
def laws_eqIntS.f (k : Nat) (l0 : List Int) (l1 : List Int) : Option (Bool) := if (l0.length : Int) = (l1.length : Int) then (laws_eqIntS.l0 k l0 l1 0) else (some false)
theorem laws_eqIntS.mono_l : ∀ k, (∀ y0 y1 y2, LeO (laws_eqIntS.l0 k y0 y1 y2) (laws_eqIntS.l0 (k + 1) y0 y1 y2))
  | 0 => fun _ _ _ r h => by simp [laws_eqIntS.l0] at h
  | k + 1 => by
    have ih0 := laws_eqIntS.mono_l k
    · intro y0 y1 y2
      unfold laws_eqIntS.l0
      repeat' first
      | (with_reducible exact ih0 _ _ _)
      | (with_reducible exact LeO.refl _)
      | (with_reducible exact LeO.none _)
      | (with_reducible refine LeO.ite ?_ ?_)
      | (with_reducible refine LeO.bind ?_ (fun _ => ?_))
      | exact ih0 _ _ _
      | exact LeO.none _
      | refine LeO.ite ?_ ?_
      | refine LeO.bind ?_ (fun _ => ?_)
theorem laws_eqIntS.mono : ∀ a0 a1 k, LeO (laws_eqIntS.f k a0 a1) (laws_eqIntS.f (k + 1) a0 a1) := by
  intro a0 a1 k
  have ih0 := laws_eqIntS.mono_l k
  unfold laws_eqIntS.f
  repeat' first
      | (with_reducible exact ih0 _ _ _)
      | (with_reducible exact LeO.refl _)
      | (with_reducible exact LeO.none _)
      | (with_reducible refine LeO.ite ?_ ?_)
      | (with_reducible refine LeO.bind ?_ (fun _ => ?_))
      | exact ih0 _ _ _
      | exact LeO.none _
      | refine LeO.ite ?_ ?_
      | refine LeO.bind ?_ (fun _ => ?_)
set_option maxHeartbeats 8000000 in
set_option maxRecDepth 100000 in
theorem laws_eqIntS.calls (k : Nat) (A0 : Option Addr) (c0 : Nat) (l0 : List Int) (A1 : Option Addr) (c1 : Nat) (l1 : List Int) (r : Bool) (w : World) (hr0 : Kd.C (Kd.int .i64) w A0 l0.length l0) (hc0 : l0.length ≤ c0) (hr1 : Kd.C (Kd.int .i64) w A1 l1.length l1) (hc1 : l1.length ≤ c1) (h : laws_eqIntS.f k l0 l1 = some r) :
    Calls Try.prog 11 #[.slice A0 l0.length c0, .slice A1 l1.length c1] w fun e w' => e = .returned (.bool r) ∧ Drawn0 w w' := by
  have HR0 := Aside0.mk hr0
  have HC0 := Aside0.mk hc0
  clear hr0 hc0
  have HR1 := Aside0.mk hr1
  have HC1 := Aside0.mk hc1
  clear hr1 hc1
  have H : (if (l0.length : Int) = (l1.length : Int) then (laws_eqIntS.l0 k l0 l1 0) else (some false)) = some r := h
  clear h
  by_cases c3 : (l0.length : Int) = (l1.length : Int)
  · rw [if_pos c3] at H
    have c3b0 : ((l0.length : Int) == (l1.length : Int)) = true := beq_iff_eq.mpr c3
    have c3b1 : ((l0.length : Int) != (l1.length : Int)) = false := bne_eq_false_iff_eq.mpr c3
    have c3b2 : (l0.length == l1.length) = true := by first | simpa using c3 | (simp at c3 ⊢; omega)
    clear c3
    have H' := Aside0.mk H
    clear H
    go_enter Try.func11, Try.ntmps11
    go_wp2
    repeat (go_quiet (fail); try go_wp2)
    go_loopg [5] k (fun kq v5 w' => ∃ (x5_1 : Int), v5 = .int .i64 x5_1 ∧ Aside0 (laws_eqIntS.l0 kq l0 l1 x5_1 = some r) ∧ Aside0 (kq ≤ k) ∧ Drawn0 w w')
    case atStart => exact ⟨(0), (by first | rfl | (simp; done) | (simp [*]; done)), H', ⟨Nat.le_refl _⟩, by repeat (first | exact Drawn0.refl _ | apply Drawn0.step)⟩
    case round =>
      clear H'
      try clear c1
      try clear p2
      try clear c3
      try clear c3b0
      try clear c3b1
      try clear c3b2
      obtain ⟨x5_1, rfl, HA, HK1, ⟨m1, rfl⟩⟩ := hrel
      cases gk with
      | zero => exact absurd HA.out (by simp [laws_eqIntS.l0])
      | succ k1 =>
        have H := HA.out
        clear HA
        simp only [laws_eqIntS.l0] at H
        by_cases c4 : x5_1 < (l0.length : Int)
        · rw [if_pos c4] at H
          have c4b0 : decide (x5_1 < (l0.length : Int)) = true := decide_eq_true c4
          clear c4
          by_cases c5 : 0 ≤ x5_1
          · rw [if_pos c5] at H
            have c5b0 : decide (0 ≤ x5_1) = true := decide_eq_true c5
            clear c5
            by_cases c6 : x5_1 < (l1.length : Int)
            · rw [if_pos c6] at H
              have c6b0 : decide (x5_1 < (l1.length : Int)) = true := decide_eq_true c6
              clear c6
              by_cases c7 : (rd l0 x5_1) = (rd l1 x5_1)
              · rw [if_pos c7] at H
                have c7b0 : ((rd l0 x5_1) == (rd l1 x5_1)) = true := beq_iff_eq.mpr c7
                have c7b1 : ((rd l0 x5_1) != (rd l1 x5_1)) = false := bne_eq_false_iff_eq.mpr c7
                clear c7
                have H' := Aside0.mk H
                clear H
                have p172 : 0 ≤ (x5_1 : Int) := of_decide_eq_true (by first | (with_reducible assumption) | assumption)
                have q172 : x5_1 < (l0.length : Int) := of_decide_eq_true (by first | (with_reducible assumption) | assumption)
                obtain ⟨ad172, e172, hx172_0⟩ := Kd.at_int HR0.out x5_1 p172 q172
                cases e172
                replace p172 := eq_true p172
                replace q172 := eq_true q172
                have p173 : 0 ≤ (x5_1 : Int) := of_decide_eq_true (by first | (with_reducible assumption) | assumption)
                have q173 : x5_1 < (l1.length : Int) := of_decide_eq_true (by first | (with_reducible assumption) | assumption)
                obtain ⟨ad173, e173, hx173_0⟩ := Kd.at_int HR1.out x5_1 p173 q173
                cases e173
                replace p173 := eq_true p173
                replace q173 := eq_true q173
                go_wp2
                repeat (go_quiet (fail); try go_wp2)
                go_roundg k1
                case measure => have := HK1.out; omega
                case rel => exact ⟨(wrap64 (x5_1 + 1)), (by first | rfl | (simp; done) | (simp [*]; done)), H', ⟨by have := HK1.out; omega⟩, by repeat (first | exact Drawn0.refl _ | apply Drawn0.step)⟩
              · rw [if_neg c7] at H
                have c7b0 : ((rd l0 x5_1) == (rd l1 x5_1)) = false := beq_eq_false_iff_ne.mpr c7
                have c7b1 : ((rd l0 x5_1) != (rd l1 x5_1)) = true := bne_iff_ne.mpr c7
                obtain rfl := Option.some.inj H
                have p172 : 0 ≤ (x5_1 : Int) := of_decide_eq_true (by first | (with_reducible assumption) | assumption)
                have q172 : x5_1 < (l0.length : Int) := of_decide_eq_true (by first | (with_reducible assumption) | assumption)
                obtain ⟨ad172, e172, hx172_0⟩ := Kd.at_int HR0.out x5_1 p172 q172
                cases e172
                replace p172 := eq_true p172
                replace q172 := eq_true q172
                have p173 : 0 ≤ (x5_1 : Int) := of_decide_eq_true (by first | (with_reducible assumption) | assumption)
                have q173 : x5_1 < (l1.length : Int) := of_decide_eq_true (by first | (with_reducible assumption) | assumption)
                obtain ⟨ad173, e173, hx173_0⟩ := Kd.at_int HR1.out x5_1 p173 q173
                cases e173
                replace p173 := eq_true p173
                replace q173 := eq_true q173
                go_wp2
                repeat (go_quiet (fail); try go_wp2)
                go_ret
                exact ⟨by first | rfl | (simp; done) | (simp [*]; done), by repeat (first | exact Drawn0.refl _ | apply Drawn0.step)⟩
            · rw [if_neg c6] at H
              exact absurd H (by simp)
          · rw [if_neg c5] at H
            exact absurd H (by simp)
        · rw [if_neg c4] at H
          have c4b0 : decide (x5_1 < (l0.length : Int)) = false := decide_eq_false c4
          clear c4
          obtain rfl := Option.some.inj H
          go_wp2
          repeat (go_quiet (fail); try go_wp2)
          go_ret
          exact ⟨by first | rfl | (simp; done) | (simp [*]; done), by repeat (first | exact Drawn0.refl _ | apply Drawn0.step)⟩
  · rw [if_neg c3] at H
    have c3b0 : ((l0.length : Int) == (l1.length : Int)) = false := beq_eq_false_iff_ne.mpr c3
    have c3b1 : ((l0.length : Int) != (l1.length : Int)) = true := bne_iff_ne.mpr c3
    have c3b2 : (l0.length == l1.length) = false := by first | simpa using c3 | (simp at c3 ⊢; omega)
    obtain rfl := Option.some.inj H
    go_enter Try.func11, Try.ntmps11
    go_wp2
    repeat (go_quiet (fail); try go_wp2)
    go_ret
    exact ⟨by first | rfl | (simp; done) | (simp [*]; done), by repeat (first | exact Drawn0.refl _ | apply Drawn0.step)⟩

/-! ### laws_markIntS: function 12 -/
def laws_markIntS.l0 : Nat → List Int → Int → Int → Option (Int × List Int)
  | 0, _, _, _ => none
  | k + 1, x0, x1, x5 => if x5 < (x0.length : Int) then (if 0 ≤ x5 then (laws_markIntS.l0 k (x0.set (x5 : Int).toNat x1) (wrap64 (x1 + 1)) (wrap64 (x5 + 1))) else (none)) else (some (x1, x0))
def laws_markIntS.f (k : Nat) (l0 : List Int) (a1 : Int) : Option (Int × List Int) := laws_markIntS.l0 k l0 a1 0
theorem laws_markIntS.mono_l : ∀ k, (∀ y0 y1 y2, LeO (laws_markIntS.l0 k y0 y1 y2) (laws_markIntS.l0 (k + 1) y0 y1 y2))
  | 0 => fun _ _ _ r h => by simp [laws_markIntS.l0] at h
  | k + 1 => by
    have ih0 := laws_markIntS.mono_l k
    · intro y0 y1 y2
      unfold laws_markIntS.l0
      repeat' first
      | (with_reducible exact ih0 _ _ _)
      | (with_reducible exact LeO.refl _)
      | (with_reducible exact LeO.none _)
      | (with_reducible refine LeO.ite ?_ ?_)
      | (with_reducible refine LeO.bind ?_ (fun _ => ?_))
      | exact ih0 _ _ _
      | exact LeO.none _
      | refine LeO.ite ?_ ?_
      | refine LeO.bind ?_ (fun _ => ?_)
theorem laws_markIntS.mono : ∀ a0 a1 k, LeO (laws_markIntS.f k a0 a1) (laws_markIntS.f (k + 1) a0 a1) := by
  intro a0 a1 k
  have ih0 := laws_markIntS.mono_l k
  unfold laws_markIntS.f
  repeat' first
      | (with_reducible exact ih0 _ _ _)
      | (with_reducible exact LeO.refl _)
      | (with_reducible exact LeO.none _)
      | (with_reducible refine LeO.ite ?_ ?_)
      | (with_reducible refine LeO.bind ?_ (fun _ => ?_))
      | exact ih0 _ _ _
      | exact LeO.none _
      | refine LeO.ite ?_ ?_
      | refine LeO.bind ?_ (fun _ => ?_)
set_option maxHeartbeats 8000000 in
set_option maxRecDepth 100000 in
theorem laws_markIntS.calls (k : Nat) (P0_ : Nat → Prop) (u9000_ : Value) (l0 : List Int) (a1 : Int) (r1 : Int) (r2 : List Int) (w0 w : World) (hB : Below w0.heap.size w0 w) (ho0 : Kd.R (Kd.int .i64) 3 w w0.heap.size P0_ u9000_ l0) (h : laws_markIntS.f k l0 a1 = some (r1, r2)) :
    Calls Try.prog 12 #[u9000_, .int .i64 a1] w fun e w' => e = .returned (.int .i64 r1) ∧ Kd.R (Kd.int .i64) 3 w' w0.heap.size (fun k_ => (P0_ k_ ∨ w.heap.size ≤ k_)) u9000_ r2 ∧ Below w0.heap.size w0 w' ∧ Kept w w' (fun k_ => P0_ k_) := by
  have HO0 := Aside0.mk (show Kd.R (Kd.int .i64) 3 w w0.heap.size (fun k_ => (P0_ k_ ∨ w.heap.size ≤ k_)) u9000_ l0 from Kd.R_mono ho0 (fun k_ hk => (.inl hk)))
  have HK := Aside0.mk (Kept.refl w (fun k_ => P0_ k_))
  have HW0 := Aside0.mk hB.size
  have HB := Aside0.mk hB
  clear hB
  have H : (laws_markIntS.l0 k l0 a1 0) = some (r1, r2) := h
  clear h
  have H' := Aside0.mk H
  clear H
  go_enter Try.func12, Try.ntmps12
  go_wp2
  go_loopg [1, 5] k (fun kq v1 v5 w' => ∃ (x0_1 : List Int) (x1_1 : Int) (x5_1 : Int), v1 = .int .i64 x1_1 ∧ v5 = .int .i64 x5_1 ∧ Aside0 (laws_markIntS.l0 kq x0_1 x1_1 x5_1 = some (r1, r2)) ∧ Aside0 (kq ≤ k) ∧ Aside0 (Kd.R (Kd.int .i64) 3 w' w0.heap.size (fun k_ => (P0_ k_ ∨ w.heap.size ≤ k_)) u9000_ x0_1) ∧ Aside0 (Kept w w' (fun k_ => P0_ k_)) ∧ Aside0 (Below w0.heap.size w0 w'))
  case atStart => exact ⟨(l0), (a1), (0), (by first | rfl | (simp; done) | (simp [*]; done)), (by first | rfl | (simp; done) | (simp [*]; done)), H', ⟨Nat.le_refl _⟩, ⟨by (with_reducible repeat (first | apply Kd.R_alloc | apply Kd.R_drewN | apply Kd.R_drew)); exact HO0.out⟩, ⟨by repeat (first | (with_reducible first | exact HK.out | apply Kept.alloc | apply Kept.drewN | apply Kept.drew) | exact HK.out)⟩, ⟨by repeat (first | (with_reducible first | exact HB.out | apply below_alloc | apply pw_below_drewN | apply below_drew1) | exact HB.out)⟩⟩
  case round =>
    clear H'
    try clear c1
    try clear p2
    obtain ⟨x0_1, x1_1, x5_1, rfl, rfl, HA, HK1, HO_0, HK, HB⟩ := hrel
    cases gk with
    | zero => exact absurd HA.out (by simp [laws_markIntS.l0])
    | succ k1 =>
      have H := HA.out
      clear HA
      simp only [laws_markIntS.l0] at H
      by_cases c3 : x5_1 < (x0_1.length : Int)
      · rw [if_pos c3] at H
        have c3b0 : decide (x5_1 < (x0_1.length : Int)) = true := decide_eq_true c3
        clear c3
        by_cases c4 : 0 ≤ x5_1
        · rw [if_pos c4] at H
          have c4b0 : decide (0 ≤ x5_1) = true := decide_eq_true c4
          clear c4
          obtain ⟨y174, hy174⟩ : ∃ y_ : List Int, y_ = (x0_1.set (x5_1 : Int).toNat x1_1) := ⟨_, rfl⟩
          replace H : (laws_markIntS.l0 k1 y174 (wrap64 (x1_1 + 1)) (wrap64 (x5_1 + 1))) = some (r1, r2) := by first | (rw [hy174]; with_reducible exact H) | (have H2_ := (Option.bind_some _ _).symm.trans H; rw [hy174]; with_reducible exact H2_) | (have H2_ := (Option.bind_some _ _).symm.trans H; with_reducible exact H2_) | with_reducible exact H | (rw [hy174]; exact H) | exact H
          have Ny174 := Aside0.mk hy174
          clear hy174
          have H' := Aside0.mk H
          clear H
          obtain ⟨Ao6, co6, eo6⟩ := Kd.R_slice HO_0.out
          subst eo6
          have p5 : 0 ≤ (x5_1 : Int) := of_decide_eq_true (by first | (with_reducible assumption) | assumption)
          have q5 : (x5_1 : Int) < ((x0_1.length : Int) : Int) := of_decide_eq_true (by first | (with_reducible assumption) | assumption)
          obtain ⟨go5, co5, eo5, gb5, gl5, cl5, HG5⟩ := Kd.R_form HO_0.out (by omega)
          (first | cases eo5 | (injection eo5 with ea_ en_ ec_; (first | subst ea_ | (injection ea_ with ea_; subst ea_)); subst ec_; clear en_))
          have GB5 := Aside0.mk gb5
          have GG5 := Aside0.mk HG5
          clear gb5 gl5 HG5
          have HMgo5 := Aside0.mk (show (P0_ go5 ∨ w.heap.size ≤ go5) from (HO_0.out.1 _ rfl))
          obtain ⟨hx5_0, hf5_0⟩ := Kd.R_celln 0 HO_0.out (x5_1 : Int) p5 q5
          replace p5 := eq_true p5
          replace q5 := eq_true q5
          have HP7 := Kd.R_putg HO_0.out (x5_1 : Int) x1_1
          go_wp2_with (first | ((with_reducible refine gate_store (t := 3) (p := 15) rfl ?_); refine store_event (t := 3) (p := 15) (v := ?vo_w8) (w1 := (wr.setCell ⟨go5, (x5_1 : Int).toNat, none⟩ (.int .i64 x1_1))) ?hg ?ho ?hn ?hr ?_; (case ho => rfl); (case hg => rfl); (case hn => rfl); (case hr => first | (go_simp; done) | (go_simp; rfl)); intro w8 hw; have hg : wr.grownBy w8 (some go5) := (by rw [hw]; exact HP7.2); have hp_ : Kd.R (Kd.int .i64) 3 w8 w0.heap.size (fun k_ => (P0_ k_ ∨ w.heap.size ≤ k_)) (.slice (some ⟨go5, 0, none⟩) x0_1.length co6) y174 := (by rw [hw, Ny174.out]; exact HP7.1); clear HP7; have n0_ := Aside0.mk (hp_); have n1_ := Aside0.mk ((by rw [hw]; exact below_set (HB.out) GB5.out : Below w0.heap.size w0 w8)); have n2_ := Aside0.mk (Kept.of_grown (S := (fun k_ => P0_ k_)) hg (by repeat (first | (with_reducible first | exact HK.out | apply Kept.alloc | apply Kept.drewN | apply Kept.drew) | exact HK.out)) (fun k_ e_ => (HO_0.out.1 k_ e_))); clear HO_0; clear HB; clear HK; have HO_0 := n0_; have HB := n1_; have HK := n2_; clear n0_ n1_ n2_; clear hg hw hp_))
          go_roundg k1
          case measure => have := HK1.out; omega
          case rel => exact ⟨(y174), (wrap64 (x1_1 + 1)), (wrap64 (x5_1 + 1)), (by first | rfl | (simp; done) | (simp [*]; done)), (by first | rfl | (simp; done) | (simp [*]; done)), H', ⟨by have := HK1.out; omega⟩, ⟨by (with_reducible repeat (first | apply Kd.R_alloc | apply Kd.R_drewN | apply Kd.R_drew)); exact HO_0.out⟩, ⟨by repeat (first | (with_reducible first | exact HK.out | apply Kept.alloc | apply Kept.drewN | apply Kept.drew) | exact HK.out)⟩, ⟨by repeat (first | (with_reducible first | exact HB.out | apply below_alloc | apply pw_below_drewN | apply below_drew1) | exact HB.out)⟩⟩
        · rw [if_neg c4] at H
          exact absurd H (by simp)
      · rw [if_neg c3] at H
        have c3b0 : decide (x5_1 < (x0_1.length : Int)) = false := decide_eq_false c3
        clear c3
        simp only [Option.some.injEq, Prod.mk.injEq] at H
        obtain ⟨rfl, rfl⟩ := H
        obtain ⟨Ao9, co9, eo9⟩ := Kd.R_slice HO_0.out
        subst eo9
        go_wp2
        go_ret
        exact ⟨by first | rfl | (simp [errW_none, errW_some] <;> rfl) | (simp [*, errW_none, errW_some] <;> rfl), by (with_reducible repeat (first | apply Kd.R_alloc | apply Kd.R_drewN | apply Kd.R_drew)); exact HO_0.out, by repeat (first | (with_reducible first | exact HB.out | apply below_alloc | apply pw_below_drewN | apply below_drew1) | exact HB.out), by repeat (first | (with_reducible first | exact HK.out | apply Kept.alloc | apply Kept.drewN | apply Kept.drew) | exact HK.out)⟩
end

section
/-! ### laws_heldIntS: function 13 -/
def laws_heldIntS.l0 : Nat → List Int → Int → Int → Option (Int)
  | 0, _, _, _ => none
  | k + 1, x0, x1, x5 => if x5 < (x0.length : Int) then (if 0 ≤ x5 then (if (rd x0 x5) = x1 then (laws_heldIntS.l0 k x0 (wrap64 (x1 + 1)) (wrap64 (x5 + 1))) else (some (-1))) else (none)) else (some x1)
def laws_heldIntS.f (k : Nat) (l0 : List Int) (a1 : Int) : Option (Int) := laws_heldIntS.l0 k l0 a1 0
theorem laws_heldIntS.mono_l : ∀ k, (∀ y0 y1 y2, LeO (laws_heldIntS.l0 k y0 y1 y2) (laws_heldIntS.l0 (k + 1) y0 y1 y2))
  | 0 => fun _ _ _ r h => by simp [laws_heldIntS.l0] at h
  | k + 1 => by
    have ih0 := laws_heldIntS.mono_l k
    · intro y0 y1 y2
      unfold laws_heldIntS.l0
      repeat' first
      | (with_reducible exact ih0 _ _ _)
      | (with_reducible exact LeO.refl _)
      | (with_reducible exact LeO.none _)
      | (with_reducible refine LeO.ite ?_ ?_)
      | (with_reducible refine LeO.bind ?_ (fun _ => ?_))
      | exact ih0 _ _ _
      | exact LeO.none _
      | refine LeO.ite ?_ ?_
      | refine LeO.bind ?_ (fun _ => ?_)
theorem laws_heldIntS.mono : ∀ a0 a1 k, LeO (laws_heldIntS.f k a0 a1) (laws_heldIntS.f (k + 1) a0 a1) := by
  intro a0 a1 k
  have ih0 := laws_heldIntS.mono_l k
  unfold laws_heldIntS.f
  repeat' first
      | (with_reducible exact ih0 _ _ _)
      | (with_reducible exact LeO.refl _)
      | (with_reducible exact LeO.none _)
      | (with_reducible refine LeO.ite ?_ ?_)
      | (with_reducible refine LeO.bind ?_ (fun _ => ?_))
      | exact ih0 _ _ _
      | exact LeO.none _
      | refine LeO.ite ?_ ?_
      | refine LeO.bind ?_ (fun _ => ?_)
set_option maxHeartbeats 8000000 in
set_option maxRecDepth 100000 in
theorem laws_heldIntS.calls (k : Nat) (A0 : Option Addr) (c0 : Nat) (l0 : List Int) (a1 : Int) (r : Int) (w : World) (hr0 : Kd.C (Kd.int .i64) w A0 l0.length l0) (hc0 : l0.length ≤ c0) (h : laws_heldIntS.f k l0 a1 = some r) :
    Calls Try.prog 13 #[.slice A0 l0.length c0, .int .i64 a1] w fun e w' => e = .returned (.int .i64 r) ∧ Drawn0 w w' := by
  have HR0 := Aside0.mk hr0
  have HC0 := Aside0.mk hc0
  clear hr0 hc0
  have H : (laws_heldIntS.l0 k l0 a1 0) = some r := h
  clear h
  have H' := Aside0.mk H
  clear H
  go_enter Try.func13, Try.ntmps13
  go_wp2
  go_loopg [1, 5] k (fun kq v1 v5 w' => ∃ (x1_1 : Int) (x5_1 : Int), v1 = .int .i64 x1_1 ∧ v5 = .int .i64 x5_1 ∧ Aside0 (laws_heldIntS.l0 kq l0 x1_1 x5_1 = some r) ∧ Aside0 (kq ≤ k) ∧ Drawn0 w w')
  case atStart => exact ⟨(a1), (0), (by first | rfl | (simp; done) | (simp [*]; done)), (by first | rfl | (simp; done) | (simp [*]; done)), H', ⟨Nat.le_refl _⟩, by repeat (first | exact Drawn0.refl _ | apply Drawn0.step)⟩
  case round =>
    clear H'
    try clear c1
    try clear p2
    obtain ⟨x1_1, x5_1, rfl, rfl, HA, HK1, ⟨m1, rfl⟩⟩ := hrel
    cases gk with
    | zero => exact absurd HA.out (by simp [laws_heldIntS.l0])
    | succ k1 =>
      have H := HA.out
      clear HA
      simp only [laws_heldIntS.l0] at H
      by_cases c3 : x5_1 < (l0.length : Int)
      · rw [if_pos c3] at H
        have c3b0 : decide (x5_1 < (l0.length : Int)) = true := decide_eq_true c3
        clear c3
        by_cases c4 : 0 ≤ x5_1
        · rw [if_pos c4] at H
          have c4b0 : decide (0 ≤ x5_1) = true := decide_eq_true c4
          clear c4
          by_cases c5 : (rd l0 x5_1) = x1_1
          · rw [if_pos c5] at H
            have c5b0 : ((rd l0 x5_1) == x1_1) = true := beq_iff_eq.mpr c5
            have c5b1 : ((rd l0 x5_1) != x1_1) = false := bne_eq_false_iff_eq.mpr c5
            clear c5
            have H' := Aside0.mk H
            clear H
            have p175 : 0 ≤ (x5_1 : Int) := of_decide_eq_true (by first | (with_reducible assumption) | assumption)
            have q175 : x5_1 < (l0.length : Int) := of_decide_eq_true (by first | (with_reducible assumption) | assumption)
            obtain ⟨ad175, e175, hx175_0⟩ := Kd.at_int HR0.out x5_1 p175 q175
            cases e175
            replace p175 := eq_true p175
            replace q175 := eq_true q175
            go_wp2
            go_roundg k1
            case measure => have := HK1.out; omega
            case rel => exact ⟨(wrap64 (x1_1 + 1)), (wrap64 (x5_1 + 1)), (by first | rfl | (simp; done) | (simp [*]; done)), (by first | rfl | (simp; done) | (simp [*]; done)), H', ⟨by have := HK1.out; omega⟩, by repeat (first | exact Drawn0.refl _ | apply Drawn0.step)⟩
          · rw [if_neg c5] at H
            have c5b0 : ((rd l0 x5_1) == x1_1) = false := beq_eq_false_iff_ne.mpr c5
            have c5b1 : ((rd l0 x5_1) != x1_1) = true := bne_iff_ne.mpr c5
            obtain rfl := Option.some.inj H
            have p175 : 0 ≤ (x5_1 : Int) := of_decide_eq_true (by first | (with_reducible assumption) | assumption)
            have q175 : x5_1 < (l0.length : Int) := of_decide_eq_true (by first | (with_reducible assumption) | assumption)
            obtain ⟨ad175, e175, hx175_0⟩ := Kd.at_int HR0.out x5_1 p175 q175
            cases e175
            replace p175 := eq_true p175
            replace q175 := eq_true q175
            go_wp2
            go_ret
            exact ⟨by first | rfl | (simp; done) | (simp [*]; done), by repeat (first | exact Drawn0.refl _ | apply Drawn0.step)⟩
        · rw [if_neg c4] at H
          exact absurd H (by simp)
      · rw [if_neg c3] at H
        have c3b0 : decide (x5_1 < (l0.length : Int)) = false := decide_eq_false c3
        clear c3
        obtain rfl := Option.some.inj H
        go_wp2
        go_ret
        exact ⟨by first | rfl | (simp; done) | (simp [*]; done), by repeat (first | exact Drawn0.refl _ | apply Drawn0.step)⟩
end

end Go.Proofs.Ytalhkihppcjanaa.X
