/- Plain functions for the Go functions of this seat, and proofs that each call answers as its plain function does; made by this session's program over the kit's printer. -/
import Derived.Test.YtikjhhjmdknhiaaX0
import Derived.Test.YtikjhhjmdknhiaaZFnExactSameBag1
namespace Go.Proofs.Ytikjhhjmdknhiaa.X
open Go.RowKit Go.Proofs.YtikjhhjmdknhiaaV.PrintWords Go.Proofs.YtikjhhjmdknhiaaV.PrintLast Go.Proofs.YtikjhhjmdknhiaaV.PrintMore
attribute [local go_sem] max2_int min2_int max_two min_two max_three min_three max_four min_four   -- for this text's walks alone
set_option linter.unusedVariables false
set_option linter.unusedSimpArgs false

section
/-! ### spec_SameBag: function 24 -/
def spec_SameBag.l0 : Nat → List (List (S77)) → List (List (S77)) → Int → Option (Bool)
  | 0, _, _, _ => none
  | k + 1, x0, x1, x5 => if x5 < (x0.length : Int) then (if 0 ≤ x5 then ((spec_RowMany.f k x0 (rd_L5 x0 x5)).bind fun t369 => ((spec_RowMany.f k x1 (rd_L5 x0 x5)).bind fun t371 => (if t369 = t371 then (spec_SameBag.l0 k x0 x1 (wrap64 (x5 + 1))) else (some false)))) else (none)) else (some ((x0.length : Int) == (x1.length : Int)))
def spec_SameBag.f (k : Nat) (l0 : List (List (S77))) (l1 : List (List (S77))) : Option (Bool) := spec_SameBag.l0 k l0 l1 0
theorem spec_SameBag.mono_l : ∀ k, (∀ y0 y1 y2, LeO (spec_SameBag.l0 k y0 y1 y2) (spec_SameBag.l0 (k + 1) y0 y1 y2))
  | 0 => fun _ _ _ r h => by simp [spec_SameBag.l0] at h
  | k + 1 => by
    have ih0 := spec_SameBag.mono_l k
    · intro y0 y1 y2
      unfold spec_SameBag.l0
      repeat' first
      | (with_reducible exact ih0 _ _ _)
      | (with_reducible exact spec_RowMany.mono _ _ _)
      | (with_reducible exact LeO.refl _)
      | (with_reducible exact LeO.none _)
      | (with_reducible refine LeO.ite ?_ ?_)
      | (with_reducible refine LeO.bind ?_ (fun _ => ?_))
      | exact ih0 _ _ _
      | exact spec_RowMany.mono _ _ _
      | exact LeO.none _
      | refine LeO.ite ?_ ?_
      | refine LeO.bind ?_ (fun _ => ?_)
theorem spec_SameBag.mono : ∀ a0 a1 k, LeO (spec_SameBag.f k a0 a1) (spec_SameBag.f (k + 1) a0 a1) := by
  intro a0 a1 k
  have ih0 := spec_SameBag.mono_l k
  unfold spec_SameBag.f
  repeat' first
      | (with_reducible exact ih0 _ _ _)
      | (with_reducible exact spec_RowMany.mono _ _ _)
      | (with_reducible exact LeO.refl _)
      | (with_reducible exact LeO.none _)
      | (with_reducible refine LeO.ite ?_ ?_)
      | (with_reducible refine LeO.bind ?_ (fun _ => ?_))
      | exact ih0 _ _ _
      | exact spec_RowMany.mono _ _ _
      | exact LeO.none _
      | refine LeO.ite ?_ ?_
      | refine LeO.bind ?_ (fun _ => ?_)
set_option maxHeartbeats 8000000 in
set_option maxRecDepth 100000 in
theorem spec_SameBag.calls (k : Nat) (A0 : Option Addr) (c0 : Nat) (l0 : List (List (S77))) (A1 : Option Addr) (c1 : Nat) (l1 : List (List (S77))) (r : Bool) (w : World) (hr0 : Kd.C (Kd.slice 77 k77) w A0 l0.length l0) (hc0 : l0.length ≤ c0) (hr1 : Kd.C (Kd.slice 77 k77) w A1 l1.length l1) (hc1 : l1.length ≤ c1) (h : spec_SameBag.f k l0 l1 = some r) :
    Calls Try.prog 24 #[.slice A0 l0.length c0, .slice A1 l1.length c1] w fun e w' => e = .returned (.bool r) ∧ Drawn0 w w' := by
  have HR0 := Aside0.mk hr0
  have HC0 := Aside0.mk hc0
  clear hr0 hc0
  have HR1 := Aside0.mk hr1
  have HC1 := Aside0.mk hc1
  clear hr1 hc1
  have H : (spec_SameBag.l0 k l0 l1 0) = some r := h
  clear h
  have H' := Aside0.mk H
  clear H
  go_enter Try.func24, Try.ntmps24
  go_wp2
  repeat (go_quiet (fail); try go_wp2)
  go_loopg [5] k (fun kq v5 w' => ∃ (x5_1 : Int), v5 = .int .i64 x5_1 ∧ Aside0 (spec_SameBag.l0 kq l0 l1 x5_1 = some r) ∧ Aside0 (kq ≤ k) ∧ Drawn0 w w')
  case atStart => exact ⟨(0), (by first | rfl | (simp; done) | (simp [*]; done)), H', ⟨Nat.le_refl _⟩, by repeat (first | exact Drawn0.refl _ | apply Drawn0.step)⟩
  case round =>
    clear H'
    try clear c1
    try clear c2
    try clear p2
    obtain ⟨x5_1, rfl, HA, HK1, ⟨m1, rfl⟩⟩ := hrel
    cases gk with
    | zero => exact absurd HA.out (by simp [spec_SameBag.l0])
    | succ k1 =>
      have H := HA.out
      clear HA
      simp only [spec_SameBag.l0] at H
      by_cases c3 : x5_1 < (l0.length : Int)
      · rw [if_pos c3] at H
        have c3b0 : decide (x5_1 < (l0.length : Int)) = true := decide_eq_true c3
        clear c3
        by_cases c4 : 0 ≤ x5_1
        · rw [if_pos c4] at H
          have c4b0 : decide (0 ≤ x5_1) = true := decide_eq_true c4
          clear c4
          replace H := Option.bind_eq_some_iff.mp H
          obtain ⟨t369, A50, H⟩ := H
          replace H : ((spec_RowMany.f k1 l1 (rd_L5 l0 x5_1)).bind fun t371 => (if t369 = t371 then (spec_SameBag.l0 k1 l0 l1 (wrap64 (x5_1 + 1))) else (some false))) = some r := H
          have A5 := Aside0.mk A50
          clear A50
          replace H := Option.bind_eq_some_iff.mp H
          obtain ⟨t371, A60, H⟩ := H
          replace H : (if t369 = t371 then (spec_SameBag.l0 k1 l0 l1 (wrap64 (x5_1 + 1))) else (some false)) = some r := H
          have A6 := Aside0.mk A60
          clear A60
          by_cases c7 : t369 = t371
          · rw [if_pos c7] at H
            have c7b0 : (t369 == t371) = true := beq_iff_eq.mpr c7
            have c7b1 : (t369 != t371) = false := bne_eq_false_iff_eq.mpr c7
            clear c7
            have H' := Aside0.mk H
            clear H
            have p368 : 0 ≤ (x5_1 : Int) := of_decide_eq_true (by first | (with_reducible assumption) | assumption)
            have q368 : x5_1 < (l0.length : Int) := of_decide_eq_true (by first | (with_reducible assumption) | assumption)
            obtain ⟨ad368, A368_0, c368_0, e368, hx368_0, hl368_0, hi368_0⟩ := at_L5 HR0.out x5_1 p368 q368
            cases e368
            have HR368_0 := Aside0.mk hi368_0
            have HC368_0 := Aside0.mk hl368_0
            clear hi368_0 hl368_0
            replace p368 := eq_true p368
            replace q368 := eq_true q368
            go_wp2_with (first | (go_at_call 20; (with_reducible refine (spec_RowMany.calls k1 _ _ l0 _ _ (rd_L5 l0 x5_1) t369 _ ?side1 ?side2 ?side3 ?side4 A5.out).mono ?_); (case side1 => repeat (first | exact HR0.out | (with_reducible refine Kd.C_alloc ?_ _) | (with_reducible refine Kd.C_drewN ?_ _) | (with_reducible refine Kd.C_drew ?_))); (case side2 => exact HC0.out); (case side3 => repeat (first | exact HR368_0.out | (with_reducible refine Kd.C_alloc ?_ _) | (with_reducible refine Kd.C_drewN ?_ _) | (with_reducible refine Kd.C_drew ?_))); (case side4 => exact HC368_0.out); rintro e w' ⟨rfl, ⟨nd, rfl⟩⟩; (try first | exact ⟨rfl, _, World.drewN_drewN _ _ _⟩ | exact ⟨rfl, _, Eq.trans (World.drewN_drewN _ _ _) (congrArg (World.drewN _) (Nat.add_assoc _ _ _))⟩); have p370 : 0 ≤ (x5_1 : Int) := of_decide_eq_true (by first | (with_reducible assumption) | assumption); have q370 : x5_1 < (l0.length : Int) := of_decide_eq_true (by first | (with_reducible assumption) | assumption); obtain ⟨ad370, A370_0, c370_0, e370, hx370_0, hl370_0, hi370_0⟩ := at_L5 HR0.out x5_1 p370 q370; obtain rfl : ad368 = ad370 := (by injection e370); have HR370_0 := Aside0.mk hi370_0; have HC370_0 := Aside0.mk hl370_0; clear hi370_0 hl370_0; replace p370 := eq_true p370; replace q370 := eq_true q370; have ea_ := Option.some.inj (hx368_0.symm.trans hx370_0); injection ea_ with ea_ en_ ec_; subst ea_; subst ec_; clear en_) | (go_at_call 20; (with_reducible refine (spec_RowMany.calls k1 _ _ l1 _ _ (rd_L5 l0 x5_1) t371 _ ?side1 ?side2 ?side3 ?side4 A6.out).mono ?_); (case side1 => repeat (first | exact HR1.out | (with_reducible refine Kd.C_alloc ?_ _) | (with_reducible refine Kd.C_drewN ?_ _) | (with_reducible refine Kd.C_drew ?_))); (case side2 => exact HC1.out); (case side3 => repeat (first | exact HR370_0.out | (with_reducible refine Kd.C_alloc ?_ _) | (with_reducible refine Kd.C_drewN ?_ _) | (with_reducible refine Kd.C_drew ?_))); (case side4 => exact HC370_0.out); rintro e w' ⟨rfl, ⟨nd, rfl⟩⟩; (try first | exact ⟨rfl, _, World.drewN_drewN _ _ _⟩ | exact ⟨rfl, _, Eq.trans (World.drewN_drewN _ _ _) (congrArg (World.drewN _) (Nat.add_assoc _ _ _))⟩)))
            repeat (go_quiet (first | (go_at_call 20; (with_reducible refine (spec_RowMany.calls k1 _ _ l0 _ _ (rd_L5 l0 x5_1) t369 _ ?side1 ?side2 ?side3 ?side4 A5.out).mono ?_); (case side1 => repeat (first | exact HR0.out | (with_reducible refine Kd.C_alloc ?_ _) | (with_reducible refine Kd.C_drewN ?_ _) | (with_reducible refine Kd.C_drew ?_))); (case side2 => exact HC0.out); (case side3 => repeat (first | exact HR368_0.out | (with_reducible refine Kd.C_alloc ?_ _) | (with_reducible refine Kd.C_drewN ?_ _) | (with_reducible refine Kd.C_drew ?_))); (case side4 => exact HC368_0.out); rintro e w' ⟨rfl, ⟨nd, rfl⟩⟩; (try first | exact ⟨rfl, _, World.drewN_drewN _ _ _⟩ | exact ⟨rfl, _, Eq.trans (World.drewN_drewN _ _ _) (congrArg (World.drewN _) (Nat.add_assoc _ _ _))⟩); have p370 : 0 ≤ (x5_1 : Int) := of_decide_eq_true (by first | (with_reducible assumption) | assumption); have q370 : x5_1 < (l0.length : Int) := of_decide_eq_true (by first | (with_reducible assumption) | assumption); obtain ⟨ad370, A370_0, c370_0, e370, hx370_0, hl370_0, hi370_0⟩ := at_L5 HR0.out x5_1 p370 q370; obtain rfl : ad368 = ad370 := (by injection e370); have HR370_0 := Aside0.mk hi370_0; have HC370_0 := Aside0.mk hl370_0; clear hi370_0 hl370_0; replace p370 := eq_true p370; replace q370 := eq_true q370; have ea_ := Option.some.inj (hx368_0.symm.trans hx370_0); injection ea_ with ea_ en_ ec_; subst ea_; subst ec_; clear en_) | (go_at_call 20; (with_reducible refine (spec_RowMany.calls k1 _ _ l1 _ _ (rd_L5 l0 x5_1) t371 _ ?side1 ?side2 ?side3 ?side4 A6.out).mono ?_); (case side1 => repeat (first | exact HR1.out | (with_reducible refine Kd.C_alloc ?_ _) | (with_reducible refine Kd.C_drewN ?_ _) | (with_reducible refine Kd.C_drew ?_))); (case side2 => exact HC1.out); (case side3 => repeat (first | exact HR370_0.out | (with_reducible refine Kd.C_alloc ?_ _) | (with_reducible refine Kd.C_drewN ?_ _) | (with_reducible refine Kd.C_drew ?_))); (case side4 => exact HC370_0.out); rintro e w' ⟨rfl, ⟨nd, rfl⟩⟩; (try first | exact ⟨rfl, _, World.drewN_drewN _ _ _⟩ | exact ⟨rfl, _, Eq.trans (World.drewN_drewN _ _ _) (congrArg (World.drewN _) (Nat.add_assoc _ _ _))⟩))); try go_wp2_with (first | (go_at_call 20; (with_reducible refine (spec_RowMany.calls k1 _ _ l0 _ _ (rd_L5 l0 x5_1) t369 _ ?side1 ?side2 ?side3 ?side4 A5.out).mono ?_); (case side1 => repeat (first | exact HR0.out | (with_reducible refine Kd.C_alloc ?_ _) | (with_reducible refine Kd.C_drewN ?_ _) | (with_reducible refine Kd.C_drew ?_))); (case side2 => exact HC0.out); (case side3 => repeat (first | exact HR368_0.out | (with_reducible refine Kd.C_alloc ?_ _) | (with_reducible refine Kd.C_drewN ?_ _) | (with_reducible refine Kd.C_drew ?_))); (case side4 => exact HC368_0.out); rintro e w' ⟨rfl, ⟨nd, rfl⟩⟩; (try first | exact ⟨rfl, _, World.drewN_drewN _ _ _⟩ | exact ⟨rfl, _, Eq.trans (World.drewN_drewN _ _ _) (congrArg (World.drewN _) (Nat.add_assoc _ _ _))⟩); have p370 : 0 ≤ (x5_1 : Int) := of_decide_eq_true (by first | (with_reducible assumption) | assumption); have q370 : x5_1 < (l0.length : Int) := of_decide_eq_true (by first | (with_reducible assumption) | assumption); obtain ⟨ad370, A370_0, c370_0, e370, hx370_0, hl370_0, hi370_0⟩ := at_L5 HR0.out x5_1 p370 q370; obtain rfl : ad368 = ad370 := (by injection e370); have HR370_0 := Aside0.mk hi370_0; have HC370_0 := Aside0.mk hl370_0; clear hi370_0 hl370_0; replace p370 := eq_true p370; replace q370 := eq_true q370; have ea_ := Option.some.inj (hx368_0.symm.trans hx370_0); injection ea_ with ea_ en_ ec_; subst ea_; subst ec_; clear en_) | (go_at_call 20; (with_reducible refine (spec_RowMany.calls k1 _ _ l1 _ _ (rd_L5 l0 x5_1) t371 _ ?side1 ?side2 ?side3 ?side4 A6.out).mono ?_); (case side1 => repeat (first | exact HR1.out | (with_reducible refine Kd.C_alloc ?_ _) | (with_reducible refine Kd.C_drewN ?_ _) | (with_reducible refine Kd.C_drew ?_))); (case side2 => exact HC1.out); (case side3 => repeat (first | exact HR370_0.out | (with_reducible refine Kd.C_alloc ?_ _) | (with_reducible refine Kd.C_drewN ?_ _) | (with_reducible refine Kd.C_drew ?_))); (case side4 => exact HC370_0.out); rintro e w' ⟨rfl, ⟨nd, rfl⟩⟩; (try first | exact ⟨rfl, _, World.drewN_drewN _ _ _⟩ | exact ⟨rfl, _, Eq.trans (World.drewN_drewN _ _ _) (congrArg (World.drewN _) (Nat.add_assoc _ _ _))⟩))))
            go_roundg k1
            case measure => have := HK1.out; omega
            case rel => exact ⟨(wrap64 (x5_1 + 1)), (by first | rfl | (simp; done) | (simp [*]; done)), H', ⟨by have := HK1.out; omega⟩, by repeat (first | exact Drawn0.refl _ | apply Drawn0.step)⟩
          · rw [if_neg c7] at H
            have c7b0 : (t369 == t371) = false := beq_eq_false_iff_ne.mpr c7
            have c7b1 : (t369 != t371) = true := bne_iff_ne.mpr c7
            obtain rfl := Option.some.inj H
            have p368 : 0 ≤ (x5_1 : Int) := of_decide_eq_true (by first | (with_reducible assumption) | assumption)
            have q368 : x5_1 < (l0.length : Int) := of_decide_eq_true (by first | (with_reducible assumption) | assumption)
            obtain ⟨ad368, A368_0, c368_0, e368, hx368_0, hl368_0, hi368_0⟩ := at_L5 HR0.out x5_1 p368 q368
            cases e368
            have HR368_0 := Aside0.mk hi368_0
            have HC368_0 := Aside0.mk hl368_0
            clear hi368_0 hl368_0
            replace p368 := eq_true p368
            replace q368 := eq_true q368
            go_wp2_with (first | (go_at_call 20; (with_reducible refine (spec_RowMany.calls k1 _ _ l0 _ _ (rd_L5 l0 x5_1) t369 _ ?side1 ?side2 ?side3 ?side4 A5.out).mono ?_); (case side1 => repeat (first | exact HR0.out | (with_reducible refine Kd.C_alloc ?_ _) | (with_reducible refine Kd.C_drewN ?_ _) | (with_reducible refine Kd.C_drew ?_))); (case side2 => exact HC0.out); (case side3 => repeat (first | exact HR368_0.out | (with_reducible refine Kd.C_alloc ?_ _) | (with_reducible refine Kd.C_drewN ?_ _) | (with_reducible refine Kd.C_drew ?_))); (case side4 => exact HC368_0.out); rintro e w' ⟨rfl, ⟨nd, rfl⟩⟩; (try first | exact ⟨rfl, _, World.drewN_drewN _ _ _⟩ | exact ⟨rfl, _, Eq.trans (World.drewN_drewN _ _ _) (congrArg (World.drewN _) (Nat.add_assoc _ _ _))⟩); have p370 : 0 ≤ (x5_1 : Int) := of_decide_eq_true (by first | (with_reducible assumption) | assumption); have q370 : x5_1 < (l0.length : Int) := of_decide_eq_true (by first | (with_reducible assumption) | assumption); obtain ⟨ad370, A370_0, c370_0, e370, hx370_0, hl370_0, hi370_0⟩ := at_L5 HR0.out x5_1 p370 q370; obtain rfl : ad368 = ad370 := (by injection e370); have HR370_0 := Aside0.mk hi370_0; have HC370_0 := Aside0.mk hl370_0; clear hi370_0 hl370_0; replace p370 := eq_true p370; replace q370 := eq_true q370; have ea_ := Option.some.inj (hx368_0.symm.trans hx370_0); injection ea_ with ea_ en_ ec_; subst ea_; subst ec_; clear en_) | (go_at_call 20; (with_reducible refine (spec_RowMany.calls k1 _ _ l1 _ _ (rd_L5 l0 x5_1) t371 _ ?side1 ?side2 ?side3 ?side4 A6.out).mono ?_); (case side1 => repeat (first | exact HR1.out | (with_reducible refine Kd.C_alloc ?_ _) | (with_reducible refine Kd.C_drewN ?_ _) | (with_reducible refine Kd.C_drew ?_))); (case side2 => exact HC1.out); (case side3 => repeat (first | exact HR370_0.out | (with_reducible refine Kd.C_alloc ?_ _) | (with_reducible refine Kd.C_drewN ?_ _) | (with_reducible refine Kd.C_drew ?_))); (case side4 => exact HC370_0.out); rintro e w' ⟨rfl, ⟨nd, rfl⟩⟩; (try first | exact ⟨rfl, _, World.drewN_drewN _ _ _⟩ | exact ⟨rfl, _, Eq.trans (World.drewN_drewN _ _ _) (congrArg (World.drewN _) (Nat.add_assoc _ _ _))⟩)))
            repeat (go_quiet (first | (go_at_call 20; (with_reducible refine (spec_RowMany.calls k1 _ _ l0 _ _ (rd_L5 l0 x5_1) t369 _ ?side1 ?side2 ?side3 ?side4 A5.out).mono ?_); (case side1 => repeat (first | exact HR0.out | (with_reducible refine Kd.C_alloc ?_ _) | (with_reducible refine Kd.C_drewN ?_ _) | (with_reducible refine Kd.C_drew ?_))); (case side2 => exact HC0.out); (case side3 => repeat (first | exact HR368_0.out | (with_reducible refine Kd.C_alloc ?_ _) | (with_reducible refine Kd.C_drewN ?_ _) | (with_reducible refine Kd.C_drew ?_))); (case side4 => exact HC368_0.out); rintro e w' ⟨rfl, ⟨nd, rfl⟩⟩; (try first | exact ⟨rfl, _, World.drewN_drewN _ _ _⟩ | exact ⟨rfl, _, Eq.trans (World.drewN_drewN _ _ _) (congrArg (World.drewN _) (Nat.add_assoc _ _ _))⟩); have p370 : 0 ≤ (x5_1 : Int) := of_decide_eq_true (by first | (with_reducible assumption) | assumption); have q370 : x5_1 < (l0.length : Int) := of_decide_eq_true (by first | (with_reducible assumption) | assumption); obtain ⟨ad370, A370_0, c370_0, e370, hx370_0, hl370_0, hi370_0⟩ := at_L5 HR0.out x5_1 p370 q370; obtain rfl : ad368 = ad370 := (by injection e370); have HR370_0 := Aside0.mk hi370_0; have HC370_0 := Aside0.mk hl370_0; clear hi370_0 hl370_0; replace p370 := eq_true p370; replace q370 := eq_true q370; have ea_ := Option.some.inj (hx368_0.symm.trans hx370_0); injection ea_ with ea_ en_ ec_; subst ea_; subst ec_; clear en_) | (go_at_call 20; (with_reducible refine (spec_RowMany.calls k1 _ _ l1 _ _ (rd_L5 l0 x5_1) t371 _ ?side1 ?side2 ?side3 ?side4 A6.out).mono ?_); (case side1 => repeat (first | exact HR1.out | (with_reducible refine Kd.C_alloc ?_ _) | (with_reducible refine Kd.C_drewN ?_ _) | (with_reducible refine Kd.C_drew ?_))); (case side2 => exact HC1.out); (case side3 => repeat (first | exact HR370_0.out | (with_reducible refine Kd.C_alloc ?_ _) | (with_reducible refine Kd.C_drewN ?_ _) | (with_reducible refine Kd.C_drew ?_))); (case side4 => exact HC370_0.out); rintro e w' ⟨rfl, ⟨nd, rfl⟩⟩; (try first | exact ⟨rfl, _, World.drewN_drewN _ _ _⟩ | exact ⟨rfl, _, Eq.trans (World.drewN_drewN _ _ _) (congrArg (World.drewN _) (Nat.add_assoc _ _ _))⟩))); try go_wp2_with (first | (go_at_call 20; (with_reducible refine (spec_RowMany.calls k1 _ _ l0 _ _ (rd_L5 l0 x5_1) t369 _ ?side1 ?side2 ?side3 ?side4 A5.out).mono ?_); (case side1 => repeat (first | exact HR0.out | (with_reducible refine Kd.C_alloc ?_ _) | (with_reducible refine Kd.C_drewN ?_ _) | (with_reducible refine Kd.C_drew ?_))); (case side2 => exact HC0.out); (case side3 => repeat (first | exact HR368_0.out | (with_reducible refine Kd.C_alloc ?_ _) | (with_reducible refine Kd.C_drewN ?_ _) | (with_reducible refine Kd.C_drew ?_))); (case side4 => exact HC368_0.out); rintro e w' ⟨rfl, ⟨nd, rfl⟩⟩; (try first | exact ⟨rfl, _, World.drewN_drewN _ _ _⟩ | exact ⟨rfl, _, Eq.trans (World.drewN_drewN _ _ _) (congrArg (World.drewN _) (Nat.add_assoc _ _ _))⟩); have p370 : 0 ≤ (x5_1 : Int) := of_decide_eq_true (by first | (with_reducible assumption) | assumption); have q370 : x5_1 < (l0.length : Int) := of_decide_eq_true (by first | (with_reducible assumption) | assumption); obtain ⟨ad370, A370_0, c370_0, e370, hx370_0, hl370_0, hi370_0⟩ := at_L5 HR0.out x5_1 p370 q370; obtain rfl : ad368 = ad370 := (by injection e370); have HR370_0 := Aside0.mk hi370_0; have HC370_0 := Aside0.mk hl370_0; clear hi370_0 hl370_0; replace p370 := eq_true p370; replace q370 := eq_true q370; have ea_ := Option.some.inj (hx368_0.symm.trans hx370_0); injection ea_ with ea_ en_ ec_; subst ea_; subst ec_; clear en_) | (go_at_call 20; (with_reducible refine (spec_RowMany.calls k1 _ _ l1 _ _ (rd_L5 l0 x5_1) t371 _ ?side1 ?side2 ?side3 ?side4 A6.out).mono ?_); (case side1 => repeat (first | exact HR1.out | (with_reducible refine Kd.C_alloc ?_ _) | (with_reducible refine Kd.C_drewN ?_ _) | (with_reducible refine Kd.C_drew ?_))); (case side2 => exact HC1.out); (case side3 => repeat (first | exact HR370_0.out | (with_reducible refine Kd.C_alloc ?_ _) | (with_reducible refine Kd.C_drewN ?_ _) | (with_reducible refine Kd.C_drew ?_))); (case side4 => exact HC370_0.out); rintro e w' ⟨rfl, ⟨nd, rfl⟩⟩; (try first | exact ⟨rfl, _, World.drewN_drewN _ _ _⟩ | exact ⟨rfl, _, Eq.trans (World.drewN_drewN _ _ _) (congrArg (World.drewN _) (Nat.add_assoc _ _ _))⟩))))
            go_ret
            exact ⟨by first | rfl | (simp; done) | (simp [*]; done), by repeat (first | exact Drawn0.refl _ | apply Drawn0.step)⟩
        · rw [if_neg c4] at H
          exact absurd H (by simp)
      · rw [if_neg c3] at H
        have c3b0 : decide (x5_1 < (l0.length : Int)) = false := decide_eq_false c3
        clear c3
        obtain rfl := Option.some.inj H
        go_wp2
        repeat (go_quiet (fail); try go_wp2)
        go_ret
        exact ⟨by first | rfl | (simp; done) | (simp [*]; done), by repeat (first | exact Drawn0.refl _ | apply Drawn0.step)⟩

-- NOT PRINTED: function 104 (impl_Value_104)

-- NOT PRINTED: function 59 (impl_Value_59)
end

section
/-! ### impl_SameBag: function 25 -/
def impl_SameBag.l0 : Nat → List (List (S77)) → List (List (S77)) → List (List (S77)) → Nat → Option Bool
  | 0, _, _, _, _ => none
  | k + 1, a, b, c, j => if j < c.length then ((impl_RowMany.f k a (c.getD j [])).bind fun t1 => (impl_RowMany.f k b (c.getD j [])).bind fun t2 => (if t1 = t2 then impl_SameBag.l0 k a b c (j + 1) else some false)) else some true
def impl_SameBag.f (k : Nat) (l0 : List (List (S77))) (l1 : List (List (S77))) : Option Bool := if l0.length ≤ 2000000 ∧ l1.length ≤ 2000000 then impl_SameBag.l0 k l0 l1 (l0 ++ l1) 0 else none
theorem impl_SameBag.mono_l : ∀ k y0 y1 y2 j, LeO (impl_SameBag.l0 k y0 y1 y2 j) (impl_SameBag.l0 (k + 1) y0 y1 y2 j)
  | 0 => fun _ _ _ _ r h => by simp [impl_SameBag.l0] at h
  | k + 1 => fun y0 y1 y2 j => by
    have ih := impl_SameBag.mono_l k
    unfold impl_SameBag.l0
    repeat' first
      | (with_reducible exact impl_RowMany.mono _ _ _)
      | (with_reducible exact ih _ _ _ _)
      | (with_reducible exact LeO.refl _)
      | (with_reducible exact LeO.none _)
      | (with_reducible refine LeO.ite ?_ ?_)
      | (with_reducible refine LeO.bind ?_ (fun _ => ?_))
theorem impl_SameBag.mono : ∀ a0 a1 k, LeO (impl_SameBag.f k a0 a1) (impl_SameBag.f (k + 1) a0 a1) := by
  intro a0 a1 k
  unfold impl_SameBag.f
  exact LeO.ite (impl_SameBag.mono_l k _ _ _ _) (LeO.none _)
set_option maxHeartbeats 8000000 in
set_option maxRecDepth 100000 in
theorem impl_SameBag.grow (m : Nat) (i : Int) (hi : i = m) (hm : m ≤ 4000000) (w : World) :
    Calls Try.prog 104 #[.slice none 0 0, .int .i64 i] w fun e w' => ∃ A c, e = .returned (.slice A 0 c) ∧ Kd.N (Kd.slice 77 k77) 33 w' w.heap.size (fun _ => True) (.slice A 0 c) [] ∧ Below w.heap.size w w' := by
  have hu24 := Try.underlying24
  have hu33 := Try.underlying33
  subst hi
  have hneg : decide ((m : Int) < 0) = false := decide_eq_false (by omega)
  have HB := Aside0.mk (Below.refl w.heap.size w)
  by_cases h0 : m = 0
  · subst h0
    go_enter Try.func104, Try.ntmps104
    go_wp2
    go_ret
    exact ⟨_, _, rfl, Kd.N_nil _ _ _ _ _, HB.out⟩
  · have hpos : decide ((m : Int) > 0) = true := decide_eq_true (by omega)
    have hpos2 : decide ((0 : Int) < (m : Int)) = true := decide_eq_true (by omega)
    have hpos3 : decide (0 < m) = true := decide_eq_true (by omega)
    have hpos4 : 0 < m := by omega
    clear h0
    go_enter Try.func104, Try.ntmps104
    go_wp2_with ((with_reducible refine gate_builtin (b := .append) rfl ?_); at_builtin; refine Kd.N_append_zeros (Kd.slice 77 k77) (w0 := w) w.heap.size rfl (.tmp 20) (.tmp 21) 24 3 33 (.slice none 0 0) 24 rfl Try.underlying24 Try.underlying3 info33 rfl (by decide) (by omega) (.slice none 0 0) [] [] (m : Int) (fun _ => True) rfl rfl (Kd.FK_slice_mk (Nat.le_refl _) (Kd.F_nil _ _ _)) (fun _ _ => trivial) (Kd.N_nil _ _ _ _ _) (by omega) HB.out (Nat.le_refl _) (by simp only [List.length_nil]; omega) ?_; intro v1 w1 ho hb hg hat; rw [List.nil_append] at ho; obtain ⟨A1, c1, e1⟩ := Kd.N_slice ho; subst e1; have HO := Aside0.mk ho; have HB1 := Aside0.mk hb; clear ho hb hg hat)
    go_ret
    refine ⟨_, _, rfl, ?_, HB1.out⟩
    have := Kd.N_take HO.out (m := 0) (Nat.zero_le _)
    simpa using this
set_option maxHeartbeats 8000000 in
set_option maxRecDepth 100000 in
theorem impl_SameBag.concat (A0 : Option Addr) (c0 : Nat) (l0 : List (List (S77))) (A1 : Option Addr) (c1 : Nat) (l1 : List (List (S77))) (w : World) (hr0 : Kd.C (Kd.slice 77 k77) w A0 l0.length l0) (hr1 : Kd.C (Kd.slice 77 k77) w A1 l1.length l1) (hl0 : l0.length ≤ 2000000) (hl1 : l1.length ≤ 2000000)
    (gb : Nat) (hx0 : w.cell? ⟨gb, 0, none⟩ = some (.slice A0 l0.length c0)) (hx1 : w.cell? ⟨gb, 1, none⟩ = some (.slice A1 l1.length c1)) :
    Calls Try.prog 59 #[.slice (some ⟨gb, 0, none⟩) 2 2] w fun e w' => ∃ A c, e = .returned (.slice A (l0 ++ l1).length c) ∧ Kd.C (Kd.slice 77 k77) w' A (l0 ++ l1).length (l0 ++ l1) ∧ (l0 ++ l1).length ≤ c ∧ Below w.heap.size w w' := by
  have hu24 := Try.underlying24
  have hu120 := Try.underlying120
  have hu33 := Try.underlying33
  have HF0 := Aside0.mk (Kd.C_F (Kd.heap_slice 77 k77_heap) hr0)
  have HF1 := Aside0.mk (Kd.C_F (Kd.heap_slice 77 k77_heap) hr1)
  clear hr0 hr1
  have HX0 := Aside0.mk hx0
  have HX1 := Aside0.mk hx1
  clear hx0 hx1
  obtain ⟨n0, hn0⟩ : ∃ n0, l0.length = n0 := ⟨_, rfl⟩
  obtain ⟨n1, hn1⟩ : ∃ n1, l1.length = n1 := ⟨_, rfl⟩
  have hlen : (l0 ++ l1).length = n0 + n1 := by rw [List.length_append, hn0, hn1]
  rw [hlen]
  rw [hn0] at HF0 HX0 hl0
  rw [hn1] at HF1 HX1 hl1
  have HLEN := Aside0.mk hlen
  have HN0 := Aside0.mk hn0
  have HN1 := Aside0.mk hn1
  clear hn0 hn1 hlen
  go_enter Try.func59, Try.ntmps59
  go_wp2
  go_loopg [3, 5, 11] 2 (fun gg s3 _ s11 wr => w = wr ∧ ((s11 = .int .i64 0 ∧ s3 = .int .i64 0 ∧ 2 ≤ gg) ∨ (s11 = .int .i64 1 ∧ s3 = .int .i64 (n0 : Int) ∧ 1 ≤ gg) ∨ (s11 = .int .i64 2 ∧ s3 = .int .i64 ((n0 + n1 : Nat) : Int))))
  case atStart => exact ⟨rfl, .inl ⟨rfl, rfl, by omega⟩⟩
  case round =>
    obtain ⟨rfl, ⟨rfl, rfl, hg⟩ | ⟨rfl, rfl, hg⟩ | ⟨rfl, rfl⟩⟩ := hrel
    · have hx := HX0.out
      have hneg : decide ((n0 : Int) < 0) = false := decide_eq_false (by omega)
      go_wp2
      go_roundg 1
      case measure => omega
      case rel => exact ⟨rfl, .inr (.inl ⟨by go_num, by go_num, by omega⟩)⟩
    · have hx := HX1.out
      have hneg : decide ((n0 : Int) + (n1 : Int) < 0) = false := decide_eq_false (by omega)
      have hneg2 : decide (((n0 + n1 : Nat) : Int) < 0) = false := decide_eq_false (by omega)
      go_wp2
      go_roundg 0
      case measure => omega
      case rel => exact ⟨rfl, .inr (.inr ⟨by go_num, by go_num⟩)⟩
    · go_wp2_with (go_at_call 104; (with_reducible refine (impl_SameBag.grow (n0 + n1) ((n0 : Int) + (n1 : Int)) (by omega) (by omega) _).mono ?_); rintro e w2 ⟨A2, c2, rfl, ho2, hb2⟩; have HO2 := Aside0.mk ho2; have HB2 := Aside0.mk hb2; clear ho2 hb2)
      go_loopg [6, 8, 27] 2 (fun gg s6 _ s27 w3 => ∃ xs, Aside0 (Kd.N (Kd.slice 77 k77) 33 w3 w.heap.size (fun _ => True) s6 xs) ∧ Aside0 (Below w.heap.size w w3) ∧ ((s27 = .int .i64 0 ∧ xs = [] ∧ 2 ≤ gg) ∨ (s27 = .int .i64 1 ∧ xs = l0 ∧ 1 ≤ gg) ∨ (s27 = .int .i64 2 ∧ xs = l0 ++ l1)))
      case atStart => exact ⟨[], HO2, HB2, .inl ⟨rfl, rfl, by omega⟩⟩
      case round =>
        obtain ⟨xs, HO, HB, hc⟩ := hrel
        obtain ⟨A6, c6, e6⟩ := Kd.N_slice HO.out
        subst e6
        have hfar : ∀ k, k < w.heap.size → True ∧ some k ≠ (Value.slice A6 xs.length c6).ownBlock := fun k hk => ⟨trivial, fun he => by have := Kd.N_base HO.out k he.symm; omega⟩
        have HFAR := Aside0.mk hfar
        clear hfar
        obtain ⟨rfl, rfl, hg⟩ | ⟨rfl, rfl, hg⟩ | ⟨rfl, rfl⟩ := hc
        · have hx := pw_cell_below HB.out HX0.out
          go_wp2_with ((with_reducible refine gate_builtin (b := .append) rfl ?_); at_builtin; refine Kd.N_append_rows (Kd.slice 77 k77) (w0 := w) w.heap.size rfl (.tmp 31) (.tmp 32) 24 33 (.slice none 0 0) 24 rfl Try.underlying24 info33 rfl (by decide) (by omega) (.slice A6 ([] : List (List (S77))).length c6) [] l0 A0 n0 c0 (fun _ => True) (fun k => k < w.heap.size) rfl rfl HO.out (Kd.F_below HF0.out HB.out) HFAR.out (fun _ _ => trivial) HB.out (below_size HB.out) (by simp only [List.length_nil]; omega) ?_; intro v1 w1 ho hb hg_ hat; rw [List.nil_append] at ho; have HO1 := Aside0.mk ho; have HB1 := Aside0.mk hb; clear ho hb hg_ hat)
          go_roundg 1
          case measure => omega
          case rel => exact ⟨l0, HO1, HB1, .inr (.inl ⟨by go_num, rfl, by omega⟩)⟩
        · have hx := pw_cell_below HB.out HX1.out
          go_wp2_with ((with_reducible refine gate_builtin (b := .append) rfl ?_); at_builtin; refine Kd.N_append_rows (Kd.slice 77 k77) (w0 := w) w.heap.size rfl (.tmp 31) (.tmp 32) 24 33 (.slice none 0 0) 24 rfl Try.underlying24 info33 rfl (by decide) (by omega) (.slice A6 xs.length c6) xs l1 A1 n1 c1 (fun _ => True) (fun k => k < w.heap.size) rfl rfl HO.out (Kd.F_below HF1.out HB.out) HFAR.out (fun _ _ => trivial) HB.out (below_size HB.out) (by rw [HN0.out]; omega) ?_; intro v1 w1 ho hb hg_ hat; have HO1 := Aside0.mk ho; have HB1 := Aside0.mk hb; clear ho hb hg_ hat)
          go_roundg 0
          case measure => omega
          case rel => exact ⟨_, HO1, HB1, .inr (.inr ⟨by go_num, rfl⟩)⟩
        · go_wp2
          go_ret
          have h3 := Kd.N_reads' HO.out
          refine ⟨A6, c6, by rw [← HLEN.out]; rfl, ?_, ?_, HB.out⟩
          · rw [← HLEN.out]; exact h3.2.2
          · rw [← HLEN.out]; exact h3.2.1
set_option maxHeartbeats 8000000 in
set_option maxRecDepth 100000 in
theorem impl_SameBag.calls (k : Nat) (A0 : Option Addr) (c0 : Nat) (l0 : List (List (S77))) (A1 : Option Addr) (c1 : Nat) (l1 : List (List (S77))) (r : Bool) (w : World) (hr0 : Kd.C (Kd.slice 77 k77) w A0 l0.length l0) (hc0 : l0.length ≤ c0) (hr1 : Kd.C (Kd.slice 77 k77) w A1 l1.length l1) (hc1 : l1.length ≤ c1) (h : impl_SameBag.f k l0 l1 = some r) :
    Calls Try.prog 25 #[.slice A0 l0.length c0, .slice A1 l1.length c1] w fun e w' => e = .returned (.bool r) ∧ Below w.heap.size w w' := by
  have hu24 := Try.underlying24
  have hu120 := Try.underlying120
  have hu33 := Try.underlying33
  unfold impl_SameBag.f at h
  by_cases hl : l0.length ≤ 2000000 ∧ l1.length ≤ 2000000
  case neg => rw [if_neg hl] at h; cases h
  rw [if_pos hl] at h
  have HH := Aside0.mk h
  have HL := Aside0.mk hl
  have HR0 := Aside0.mk hr0
  have HR1 := Aside0.mk hr1
  have HC0 := Aside0.mk hc0
  have HC1 := Aside0.mk hc1
  clear hl h hr0 hr1 hc0 hc1
  obtain ⟨L, hL⟩ : ∃ L, l0 ++ l1 = L := ⟨_, rfl⟩
  have HLL := Aside0.mk hL
  have HH2 : Aside0 (impl_SameBag.l0 k l0 l1 L 0 = some r) := ⟨by rw [← hL]; exact HH.out⟩
  have hbig : L.length ≤ 4000000 := by rw [← hL, List.length_append]; have := HL.out; omega
  clear hL HH
  go_enter Try.func25, Try.ntmps25
  go_wp2_with ((go_at_call 59; (with_reducible refine (impl_SameBag.concat A0 c0 l0 A1 c1 l1 _ ?sidea ?sideb HL.out.1 HL.out.2 w.heap.size ?sidec ?sided).mono ?_); (case sidea => exact Kd.C_below HR0.out (below_alloc (Below.refl _ _) _)); (case sideb => exact Kd.C_below HR1.out (below_alloc (Below.refl _ _) _)); (case sidec => exact (blk_cell (heap_alloc_new _ _) 0).trans rfl); (case sided => exact (blk_cell (heap_alloc_new _ _) 1).trans rfl); rintro e w2 ⟨A2, c2, rfl, hC2, hle2, hb2⟩; rw [HLL.out] at hC2; have HC2 := Aside0.mk hC2; have HB2 := Aside0.mk (below_step (below_alloc (Below.refl _ _) _) hb2); clear hC2 hle2 hb2; rw [HLL.out]))
  go_loopg [6, 12] k (fun kq _ s12 w3 => ∃ j : Nat, s12 = .int .i64 j ∧ Aside0 (impl_SameBag.l0 kq l0 l1 L j = some r) ∧ Aside0 (kq ≤ k) ∧ j ≤ L.length ∧ Aside0 (Below w2.heap.size w2 w3))
  case atStart => exact ⟨0, rfl, HH2, ⟨Nat.le_refl _⟩, Nat.zero_le _, ⟨Below.refl _ _⟩⟩
  case round =>
    obtain ⟨j, rfl, HA, HK, hjl, HB3⟩ := hrel
    cases gk with
    | zero => exact absurd HA.out (by simp [impl_SameBag.l0])
    | succ k1 =>
      have H := HA.out
      rw [impl_SameBag.l0] at H
      by_cases hlt : j < L.length
      · rw [if_pos hlt] at H
        have hltz : decide ((j : Int) < (L.length : Int)) = true := decide_eq_true (by omega)
        obtain ⟨t1, ht1, H⟩ := Option.bind_eq_some_iff.mp H
        obtain ⟨t2, ht2, H⟩ := Option.bind_eq_some_iff.mp H
        obtain ⟨ad, cs, e0, hcl, hK, hcc⟩ := Kd.C_get HC2.out [] (j : Int) (by omega) (by omega)
        rw [Int.toNat_natCast] at hK hcc
        obtain ⟨x, hx⟩ : ∃ x, L.getD j [] = x := ⟨_, rfl⟩
        rw [hx] at ht1 ht2 hK
        obtain ⟨A4, c4, rfl, hl4, hC4⟩ := hK
        subst e0
        have l2 : wr.cell? (ad.add j) = some (.slice A4 x.length c4) := by
          have h1 := pw_cell_below HB3.out (hcc 0 _ rfl)
          rw [show ((Kd.slice 77 k77)).sz = 1 from rfl, Nat.mul_one, Nat.add_zero] at h1
          exact h1
        have HT1 := Aside0.mk ht1
        have HT2 := Aside0.mk ht2
        have HL4 := Aside0.mk hl4
        have HC4 := Aside0.mk (Kd.C_below hC4 HB3.out)
        have HB23 := Aside0.mk (below_step HB2.out HB3.out)
        clear ht1 ht2 hcl hcc hx hl4 hC4
        by_cases ht : t1 = t2
        · rw [if_pos ht] at H
          have HH3 := Aside0.mk H
          have hte : (t1 != t2) = false := by rw [ht]; simp
          clear H ht
          go_wp2_with (first | (go_at_call 22; (with_reducible refine (impl_RowMany.calls k1 A0 c0 l0 A4 c4 x t1 _ ?sidea HC0.out ?sideb HL4.out HT1.out).mono ?_); (case sidea => exact Kd.C_below HR0.out HB23.out); (case sideb => exact HC4.out); rintro e w5 ⟨rfl, ⟨nd, rfl⟩⟩) | (go_at_call 22; (with_reducible refine (impl_RowMany.calls k1 A1 c1 l1 A4 c4 x t2 _ ?sidea HC1.out ?sideb HL4.out HT2.out).mono ?_); (case sidea => exact Kd.C_below HR1.out (pw_below_drewN HB23.out _)); (case sideb => exact Kd.C_below HC4.out (pw_below_drewN (Below.refl _ _) _)); rintro e w6 ⟨rfl, ⟨nd2, rfl⟩⟩))
          go_roundg k1
          case measure => have := HK.out; omega
          case rel => exact ⟨j + 1, by go_num, HH3, ⟨by have := HK.out; omega⟩, by omega, ⟨by first | exact pw_below_drewN HB3.out _ | exact pw_below_drewN (pw_below_drewN HB3.out _) _⟩⟩
        · rw [if_neg ht] at H
          obtain rfl := Option.some.inj H
          have hte : (t1 != t2) = true := by simpa using ht
          clear H ht
          go_wp2_with (first | (go_at_call 22; (with_reducible refine (impl_RowMany.calls k1 A0 c0 l0 A4 c4 x t1 _ ?sidea HC0.out ?sideb HL4.out HT1.out).mono ?_); (case sidea => exact Kd.C_below HR0.out HB23.out); (case sideb => exact HC4.out); rintro e w5 ⟨rfl, ⟨nd, rfl⟩⟩) | (go_at_call 22; (with_reducible refine (impl_RowMany.calls k1 A1 c1 l1 A4 c4 x t2 _ ?sidea HC1.out ?sideb HL4.out HT2.out).mono ?_); (case sidea => exact Kd.C_below HR1.out (pw_below_drewN HB23.out _)); (case sideb => exact Kd.C_below HC4.out (pw_below_drewN (Below.refl _ _) _)); rintro e w6 ⟨rfl, ⟨nd2, rfl⟩⟩))
          go_ret
          exact ⟨rfl, by first | exact pw_below_drewN HB23.out _ | exact pw_below_drewN (pw_below_drewN HB23.out _) _⟩
      · rw [if_neg hlt] at H
        obtain rfl := Option.some.inj H
        have hltz : decide ((j : Int) < (L.length : Int)) = false := decide_eq_false (by omega)
        clear H
        go_wp2
        go_ret
        exact ⟨rfl, below_step HB2.out HB3.out⟩
end

end Go.Proofs.Ytikjhhjmdknhiaa.X
