/- Plain functions for the Go functions of this seat, and proofs that each call answers as its plain function does; made by this session's program over the kit's printer. -/
import Derived.Test.YtalhkihppcjanaaUX0
import Derived.Test.YtalhkihppcjanaaZFnRowMany5
namespace Go.Proofs.Ytalhkihppcjanaa.X
open Go.RowKit Go.Proofs.YtalhkihppcjanaaV.PrintWords Go.Proofs.YtalhkihppcjanaaV.PrintLast Go.Proofs.YtalhkihppcjanaaV.PrintMore
attribute [local go_sem] max2_int min2_int max_two min_two max_three min_three max_four min_four   -- for this text's walks alone
set_option linter.unusedVariables false
set_option linter.unusedSimpArgs false

open Go.Proofs.YtalhkihppcjanaaV.PrintWords renaming below_alloc → zU, pw_below_drewN → zV, below_drew1 → zW, blk_drewN → zX, blk_drew → zY, blk_alloc → zZ, blk_frozen → zF, blk_cell → zK, below_step → zG, below_set → zH, below_size → zI, blk_below → zJ
open Go.Proofs.YtalhkihppcjanaaV.PrintWords.Kd renaming R_alloc → zR, R_drewN → zS, R_drew → zT, C_alloc → zQ, C_drewN → zO, C_drew → zP
section
attribute [local go_sem high] eqA83

/-! ### spec_DrawRowMany: function 19 -/
def spec_DrawRowMany.f (k : Nat) (l0 : List Int) : Option (List (List (S83)) × List (S83)) := (spec_l20Open.f l0).bind fun o => ((spec_l20Columns.f k o.1 o.2 0).bind fun c => (if 1 ≤ c.1.length then ((spec_l20Bag.f k o.1 c.2 (c.1.take 1) 20).bind fun b => ((spec_l20Fit.f k o.1 b.2 (c.1.take 1) 20).bind fun q => (some (b.1, q.1)))) else none))
theorem spec_DrawRowMany.mono : ∀ a0 k, LeO (spec_DrawRowMany.f k a0) (spec_DrawRowMany.f (k + 1) a0) := by
 intro a0 k
 unfold spec_DrawRowMany.f
 refine LeO.bind (LeO.refl _) (fun o => ?_)
 refine LeO.bind (spec_l20Columns.mono _ _ _ _) (fun c => ?_)
 refine LeO.ite ?_ (LeO.none _)
 refine LeO.bind (spec_l20Bag.mono _ _ _ _ _) (fun b => ?_)
 exact LeO.bind (spec_l20Fit.mono _ _ _ _ _) (fun q => LeO.refl _)
set_option maxHeartbeats 8000000 in
set_option maxRecDepth 100000 in
theorem spec_DrawRowMany.calls (k : Nat) (A0 : Option Addr) (c0 : Nat) (l0 : List Int) (r1 : List (List (S83))) (r2 : List (S83)) (w : World) (hr0 : Kd.C (Kd.int .u8) w A0 l0.length l0) (hc0 : l0.length ≤ c0) (h : spec_DrawRowMany.f k l0 = some (r1, r2)) :
  Calls Try.prog 19 #[.slice A0 l0.length c0] w fun e w' => ∃ v0_ v1_ : Value, e = .returned (.tuple #[v0_, v1_]) ∧ Kd.S (Kd.slice 83 k83) 39 w' w.heap.size (fun k_ => some k_ ≠ (v1_ : Value).ownBlock) v0_ r1 ∧ Kd.R k83 83 w' w.heap.size (fun _ => True) v1_ r2 ∧ Below w.heap.size w w' := by
 have hu77 := Try.underlying77
 have hu113 := Try.underlying113
 have HR0 := zM hr0
 have HC0 := zM hc0
 clear hr0 hc0
 unfold spec_DrawRowMany.f at h
 obtain ⟨⟨o1, o2⟩, ho, h⟩ := Option.bind_eq_some_iff.mp h
 have AO := zM ho
 clear ho
 obtain ⟨⟨cs, s2⟩, hc, h⟩ := Option.bind_eq_some_iff.mp h
 have AC := zM hc
 clear hc
 by_cases hl : 1 ≤ cs.length
 case neg => rw [if_neg (show ¬ 1 ≤ (cs, s2).1.length from hl)] at h; cases h
 rw [if_pos (show 1 ≤ (cs, s2).1.length from hl)] at h
 obtain ⟨⟨bs, s3⟩, hb, h⟩ := Option.bind_eq_some_iff.mp h
 have AB := zM hb
 clear hb
 obtain ⟨⟨qs, s4⟩, hq, h⟩ := Option.bind_eq_some_iff.mp h
 have AQ := zM hq
 clear hq
 obtain ⟨rfl, rfl⟩ := Prod.mk.inj (Option.some.inj h)
 clear h
 have HT : Aside0 ((cs.take 1).length = 1) := ⟨by rw [List.length_take]; omega⟩
 have HL := zM hl
 obtain ⟨c1, hc1⟩ : ∃ c1, cs.take 1 = c1 := ⟨_, rfl⟩
 have AB2 : Aside0 (spec_l20Bag.f k o1 s2 c1 20 = some (bs, s3)) := ⟨by rw [← hc1]; exact AB.out⟩
 have AQ2 : Aside0 (spec_l20Fit.f k o1 s3 c1 20 = some (qs, s4)) := ⟨by rw [← hc1]; exact AQ.out⟩
 rw [hc1] at HT
 have HC1 := zM hc1
 clear hc1 AB AQ hl
 go_enter Try.func19, Try.ntmps19
 go_wp2_with (first
  | (go_at_call 46; (with_reducible refine (spec_l20Open.calls _ _ l0 o1 o2 w _ ?side1 ?side2 ?side3 AO.out).mono ?_); (case side1 => exact Below.refl _ _); (case side2 => exact HR0.out); (case side3 => exact HC0.out); rintro e w4 ⟨g, rfl, hi, hb, hb2⟩; have HI4 := zM hi; have HB4 := zM hb; clear hi hb hb2)
  | (go_at_call 47; (with_reducible refine (spec_l20Columns.calls k g o1 o2 0 cs s2 w _ HI4.out HB4.out AC.out).mono ?_); rintro e w5 ⟨v5, rfl, ho5, hi, hb, hk⟩; obtain ⟨A5, c5, e5⟩ := Kd.R_slice ho5; subst e5; have HO5 := zM ho5; have HI5 := zM hi; have HB5 := zM hb; have HG5 := zM (IsS111.lt HI4.out); have hcap : 1 ≤ c5 := (by have h1_ := (Kd.R_reads' ho5).2.1; have h2_ := HL.out; omega); have hcb : decide ((1 : Int) ≤ (c5 : Int)) = true := decide_eq_true (by omega); have hcb2 : decide (1 ≤ c5) = true := decide_eq_true hcap; have HF5 : Aside0 (∀ W_, KeepBut w5 W_ g none → Kd.C k113 W_ A5 c1.length c1) := ⟨fun W_ hW_ => by (have h_ := Kd.C_foot_own (g := g) (Kd.R_mono (ok' := fun q_ => q_ ≠ g) (Kd.R_bound HO5.out) (fun q_ hq_ => by have h1_ := hq_.2.1; have h2_ := HG5.out; omega)) (fun _ h_ => h_) W_ hW_; have h3_ := Kd.C_take h_ (m := 1) HL.out; rw [HC1.out] at h3_; exact h3_)⟩; have HCC5 : Aside0 (c1.length ≤ c5) := ⟨by rw [HT.out]; exact hcap⟩; clear ho5 hi hb hk)
  | (go_at_call 48; refine calls_of_args (args' := #[.pointer (some ⟨g, 0, none⟩), .slice A5 c1.length c5, .int .i64 20]) (by first | rfl | (rw [HT.out]) | (rw [HT.out]; rfl)) ?_; (with_reducible refine (spec_l20Bag.calls k g o1 s2 A5 c5 c1 20 bs s3 w _ HI5.out HB5.out HF5.out HCC5.out AB2.out).mono ?_); rintro e w6 ⟨v6, rfl, ho6, hi, hb, hk⟩; have HO6 := zM ho6; have HI6 := zM hi; have HB6 := zM hb; have HF6 := zM (fun W_ hW_ => Kd.C_foot_step HF5.out hk W_ hW_); have HG6 := zM (IsS111.lt HI5.out); have HZ6 := zM (zI HB5.out); clear ho6 hi hb hk)
  | (go_at_call 49; refine calls_of_args (args' := #[.pointer (some ⟨g, 0, none⟩), .slice A5 c1.length c5, .int .i64 20]) (by first | rfl | (rw [HT.out]) | (rw [HT.out]; rfl)) ?_; (with_reducible refine (spec_l20Fit.calls k g o1 s3 A5 c5 c1 20 qs s4 w _ HI6.out HB6.out HF6.out HCC5.out AQ2.out).mono ?_); rintro e w7 ⟨v7, rfl, ho7, hi, hb, hk⟩; have HO7 := zM ho7; have HB7 := zM hb; have HZ7 := zM (zI HB6.out); have HS7 := zM (Kd.S_keep (Kd.S_mono (ok' := fun q_ => q_ ≠ g ∧ q_ < w6.heap.size) (Kd.S_bound HO6.out) (fun q_ hq_ => ⟨by have h1_ := hq_.2.1; have h2_ := HG6.out; omega, hq_.2.2.1⟩)) hk (fun q_ hq_ => hq_.1)); clear ho7 hi hb hk))
 go_ret2
 refine ⟨_, _, rfl, Kd.S_lower (Kd.S_mono HS7.out (fun q_ hq_ he_ => ?_)) HZ6.out, Kd.R_lower HO7.out HZ7.out, HB7.out⟩
 have h1_ := Kd.R_base HO7.out q_ he_.symm
 have h2_ := hq_.2
 omega

/-! ### impl_Value_50: function 50 -/
def impl_Value_50.l0 : Nat → List (S83) → List (S83) → Int → Int → Option (Bool)
 | 0, _, _, _, _ => none
 | k + 1, x0, x1, x12, x13 => if x13 < x12 then (if 0 ≤ x13 then (if x13 < (x0.length : Int) then (if x13 < (x1.length : Int) then (if (!(((rd_T83 x0 x13).f0) == ((rd_T83 x1 x13).f0)) || (!(((rd_T83 x0 x13).f1) == ((rd_T83 x1 x13).f1)) || (!((((rd_T83 x0 x13).f2).toList) == (((rd_T83 x1 x13).f2).toList))))) = true then (some false) else (impl_Value_50.l0 k x0 x1 x12 (wrap64 (x13 + 1)))) else (none)) else (none)) else (none)) else (some true)
def impl_Value_50.f (k : Nat) (l0 : List (S83)) (l1 : List (S83)) : Option (Bool) := if (l0.length : Int) = (l1.length : Int) then (impl_Value_50.l0 k l0 l1 (l0.length : Int) 0) else (some false)
theorem impl_Value_50.mono_l : ∀ k, (∀ y0 y1 y2 y3, LeO (impl_Value_50.l0 k y0 y1 y2 y3) (impl_Value_50.l0 (k + 1) y0 y1 y2 y3))
 | 0 => fun _ _ _ _ r h => by simp [impl_Value_50.l0] at h
 | k + 1 => by
  have ih0 := impl_Value_50.mono_l k
  ·
   intro y0 y1 y2 y3
   unfold impl_Value_50.l0
   repeat' first
   | (with_reducible exact ih0 _ _ _ _)
   | (with_reducible exact LeO.refl _)
   | (with_reducible exact LeO.none _)
   | (with_reducible refine LeO.ite ?_ ?_)
   | (with_reducible refine LeO.bind ?_ (fun _ => ?_))
   | exact ih0 _ _ _ _
   | exact LeO.none _
   | refine LeO.ite ?_ ?_
   | refine LeO.bind ?_ (fun _ => ?_)
theorem impl_Value_50.mono : ∀ a0 a1 k, LeO (impl_Value_50.f k a0 a1) (impl_Value_50.f (k + 1) a0 a1) := by
 intro a0 a1 k
 have ih0 := impl_Value_50.mono_l k
 unfold impl_Value_50.f
 repeat' first
   | (with_reducible exact ih0 _ _ _ _)
   | (with_reducible exact LeO.refl _)
   | (with_reducible exact LeO.none _)
   | (with_reducible refine LeO.ite ?_ ?_)
   | (with_reducible refine LeO.bind ?_ (fun _ => ?_))
   | exact ih0 _ _ _ _
   | exact LeO.none _
   | refine LeO.ite ?_ ?_
   | refine LeO.bind ?_ (fun _ => ?_)
set_option maxHeartbeats 8000000 in
set_option maxRecDepth 100000 in
theorem impl_Value_50.calls (k : Nat) (A0 : Option Addr) (c0 : Nat) (l0 : List (S83)) (A1 : Option Addr) (c1 : Nat) (l1 : List (S83)) (r : Bool) (w : World) (hr0 : Kd.C k83 w A0 l0.length l0) (hc0 : l0.length ≤ c0) (hr1 : Kd.C k83 w A1 l1.length l1) (hc1 : l1.length ≤ c1) (h : impl_Value_50.f k l0 l1 = some r) :
  Calls Try.prog 50 #[.slice A0 l0.length c0, .slice A1 l1.length c1] w fun e w' => e = .returned (.bool r) ∧ Drawn0 w w' := by
 have hu83 := Try.underlying83
 have HR0 := zM hr0
 have HC0 := zM hc0
 clear hr0 hc0
 have HR1 := zM hr1
 have HC1 := zM hc1
 clear hr1 hc1
 have H : (if (l0.length : Int) = (l1.length : Int) then (impl_Value_50.l0 k l0 l1 (l0.length : Int) 0) else (some false)) = some r := h
 clear h
 by_cases c3 : (l0.length : Int) = (l1.length : Int)
 ·
  rw [if_pos c3] at H
  have c3b0 : ((l0.length : Int) == (l1.length : Int)) = true := beq_iff_eq.mpr c3
  have c3b1 : ((l0.length : Int) != (l1.length : Int)) = false := bne_eq_false_iff_eq.mpr c3
  have c3b2 : (l0.length == l1.length) = true := by first | simpa using c3 | (simp at c3 ⊢; omega)
  clear c3
  have H' := zM H
  clear H
  go_enter Try.func50, Try.ntmps50
  go_wp2
  repeat (go_quiet (fail); try go_wp2)
  go_loopg [13] k (fun kq v13 w' => ∃ (x13_1 : Int), v13 = .int .i64 x13_1 ∧ Aside0 (impl_Value_50.l0 kq l0 l1 (l0.length : Int) x13_1 = some r) ∧ Aside0 (kq ≤ k) ∧ Drawn0 w w')
  case atStart => exact ⟨(0), (by first | rfl | (simp; done) | (simp [*]; done)), H', ⟨Nat.le_refl _⟩, by repeat (first | exact Drawn0.refl _ | apply Drawn0.step)⟩
  case round =>
   clear H'
   try clear c1
   try clear p2
   try clear c3
   try clear c3b0
   try clear c3b1
   try clear c3b2
   obtain ⟨x13_1, rfl, HA, HK1, ⟨m1, rfl⟩⟩ := hrel
   cases gk with
   | zero => exact absurd HA.out (by simp [impl_Value_50.l0])
   | succ k1 =>
    have H := HA.out
    clear HA
    simp only [impl_Value_50.l0] at H
    by_cases c4 : x13_1 < (l0.length : Int)
    ·
     rw [if_pos c4] at H
     have c4b0 : decide (x13_1 < (l0.length : Int)) = true := decide_eq_true c4
     clear c4
     by_cases c5 : 0 ≤ x13_1
     ·
      rw [if_pos c5] at H
      have c5b0 : decide (0 ≤ x13_1) = true := decide_eq_true c5
      clear c5
      by_cases c6 : x13_1 < (l0.length : Int)
      ·
       rw [if_pos c6] at H
       have c6b0 : decide (x13_1 < (l0.length : Int)) = true := decide_eq_true c6
       clear c6
       by_cases c7 : x13_1 < (l1.length : Int)
       ·
        rw [if_pos c7] at H
        have c7b0 : decide (x13_1 < (l1.length : Int)) = true := decide_eq_true c7
        clear c7
        by_cases c8 : (!(((rd_T83 l0 x13_1).f0) == ((rd_T83 l1 x13_1).f0)) || (!(((rd_T83 l0 x13_1).f1) == ((rd_T83 l1 x13_1).f1)) || (!((((rd_T83 l0 x13_1).f2).toList) == (((rd_T83 l1 x13_1).f2).toList))))) = true
        ·
         rw [if_pos c8] at H
         have c8b0 : (!(((rd_T83 l0 x13_1).f0) == ((rd_T83 l1 x13_1).f0)) || (!(((rd_T83 l0 x13_1).f1) == ((rd_T83 l1 x13_1).f1)) || (!((((rd_T83 l0 x13_1).f2).toList) == (((rd_T83 l1 x13_1).f2).toList))))) = true := c8
         clear c8
         obtain rfl := Option.some.inj H
         have p446 : 0 ≤ (x13_1 : Int) := zL (by assumption)
         have q446 : x13_1 < (l0.length : Int) := zL (by assumption)
         obtain ⟨ad446, e446, hx446_0, hx446_1, hx446_2⟩ := at_T83 HR0.out x13_1 p446 q446
         cases e446
         replace p446 := eq_true p446
         replace q446 := eq_true q446
         have p447 : 0 ≤ (x13_1 : Int) := zL (by assumption)
         have q447 : x13_1 < (l1.length : Int) := zL (by assumption)
         obtain ⟨ad447, e447, hx447_0, hx447_1, hx447_2⟩ := at_T83 HR1.out x13_1 p447 q447
         cases e447
         replace p447 := eq_true p447
         replace q447 := eq_true q447
         go_wp2
         repeat (go_quiet (fail); try go_wp2)
         go_ret
         exact ⟨by first | rfl | (simp; done) | (simp [*]; done), by repeat (first | exact Drawn0.refl _ | apply Drawn0.step)⟩
        ·
         rw [if_neg c8] at H
         have c8b0 : (!(((rd_T83 l0 x13_1).f0) == ((rd_T83 l1 x13_1).f0)) || (!(((rd_T83 l0 x13_1).f1) == ((rd_T83 l1 x13_1).f1)) || (!((((rd_T83 l0 x13_1).f2).toList) == (((rd_T83 l1 x13_1).f2).toList))))) = false := by simpa using c8
         clear c8
         have H' := zM H
         clear H
         have p446 : 0 ≤ (x13_1 : Int) := zL (by assumption)
         have q446 : x13_1 < (l0.length : Int) := zL (by assumption)
         obtain ⟨ad446, e446, hx446_0, hx446_1, hx446_2⟩ := at_T83 HR0.out x13_1 p446 q446
         cases e446
         replace p446 := eq_true p446
         replace q446 := eq_true q446
         have p447 : 0 ≤ (x13_1 : Int) := zL (by assumption)
         have q447 : x13_1 < (l1.length : Int) := zL (by assumption)
         obtain ⟨ad447, e447, hx447_0, hx447_1, hx447_2⟩ := at_T83 HR1.out x13_1 p447 q447
         cases e447
         replace p447 := eq_true p447
         replace q447 := eq_true q447
         go_wp2
         repeat (go_quiet (fail); try go_wp2)
         go_roundg k1
         case measure => have := HK1.out; omega
         case rel => exact ⟨(wrap64 (x13_1 + 1)), (by first | rfl | (simp; done) | (simp [*]; done)), H', ⟨by have := HK1.out; omega⟩, by repeat (first | exact Drawn0.refl _ | apply Drawn0.step)⟩
       ·
        rw [if_neg c7] at H
        exact absurd H (by simp)
      ·
       rw [if_neg c6] at H
       exact absurd H (by simp)
     ·
      rw [if_neg c5] at H
      exact absurd H (by simp)
    ·
     rw [if_neg c4] at H
     have c4b0 : decide (x13_1 < (l0.length : Int)) = false := decide_eq_false c4
     clear c4
     obtain rfl := Option.some.inj H
     go_wp2
     repeat (go_quiet (fail); try go_wp2)
     go_ret
     exact ⟨by first | rfl | (simp; done) | (simp [*]; done), by repeat (first | exact Drawn0.refl _ | apply Drawn0.step)⟩
 ·
  rw [if_neg c3] at H
  have c3b0 : ((l0.length : Int) == (l1.length : Int)) = false := beq_eq_false_iff_ne.mpr c3
  have c3b1 : ((l0.length : Int) != (l1.length : Int)) = true := bne_iff_ne.mpr c3
  have c3b2 : (l0.length == l1.length) = false := by first | simpa using c3 | (simp at c3 ⊢; omega)
  obtain rfl := Option.some.inj H
  go_enter Try.func50, Try.ntmps50
  go_wp2
  repeat (go_quiet (fail); try go_wp2)
  go_ret
  exact ⟨by first | rfl | (simp; done) | (simp [*]; done), by repeat (first | exact Drawn0.refl _ | apply Drawn0.step)⟩
end

section
/-! ### impl_RowMany: function 20 -/
def impl_RowMany.l0 : Nat → List (S83) → Int → List (List (S83)) → Int → Int → Option (Int)
 | 0, _, _, _, _, _ => none
 | k + 1, x1, x5, x8, x9, x10 => if x10 < x9 then (if 0 ≤ x10 then (if x10 < (x8.length : Int) then ((impl_Value_50.f k (rd_L4 x8 x10) x1).bind fun t449 => (if t449 = true then (impl_RowMany.l0 k x1 (wrap64 (x5 + 1)) x8 x9 (wrap64 (x10 + 1))) else (impl_RowMany.l0 k x1 x5 x8 x9 (wrap64 (x10 + 1))))) else (none)) else (none)) else (some x5)
def impl_RowMany.f (k : Nat) (l0 : List (List (S83))) (l1 : List (S83)) : Option (Int) := impl_RowMany.l0 k l1 0 l0 (l0.length : Int) 0
theorem impl_RowMany.mono_l : ∀ k, (∀ y0 y1 y2 y3 y4, LeO (impl_RowMany.l0 k y0 y1 y2 y3 y4) (impl_RowMany.l0 (k + 1) y0 y1 y2 y3 y4))
 | 0 => fun _ _ _ _ _ r h => by simp [impl_RowMany.l0] at h
 | k + 1 => by
  have ih0 := impl_RowMany.mono_l k
  ·
   intro y0 y1 y2 y3 y4
   unfold impl_RowMany.l0
   repeat' first
   | (with_reducible exact ih0 _ _ _ _ _)
   | (with_reducible exact impl_Value_50.mono _ _ _)
   | (with_reducible exact LeO.refl _)
   | (with_reducible exact LeO.none _)
   | (with_reducible refine LeO.ite ?_ ?_)
   | (with_reducible refine LeO.bind ?_ (fun _ => ?_))
   | exact ih0 _ _ _ _ _
   | exact impl_Value_50.mono _ _ _
   | exact LeO.none _
   | refine LeO.ite ?_ ?_
   | refine LeO.bind ?_ (fun _ => ?_)
theorem impl_RowMany.mono : ∀ a0 a1 k, LeO (impl_RowMany.f k a0 a1) (impl_RowMany.f (k + 1) a0 a1) := by
 intro a0 a1 k
 have ih0 := impl_RowMany.mono_l k
 unfold impl_RowMany.f
 repeat' first
   | (with_reducible exact ih0 _ _ _ _ _)
   | (with_reducible exact impl_Value_50.mono _ _ _)
   | (with_reducible exact LeO.refl _)
   | (with_reducible exact LeO.none _)
   | (with_reducible refine LeO.ite ?_ ?_)
   | (with_reducible refine LeO.bind ?_ (fun _ => ?_))
   | exact ih0 _ _ _ _ _
   | exact impl_Value_50.mono _ _ _
   | exact LeO.none _
   | refine LeO.ite ?_ ?_
   | refine LeO.bind ?_ (fun _ => ?_)
set_option maxHeartbeats 8000000 in
set_option maxRecDepth 100000 in
theorem impl_RowMany.calls (k : Nat) (A0 : Option Addr) (c0 : Nat) (l0 : List (List (S83))) (A1 : Option Addr) (c1 : Nat) (l1 : List (S83)) (r : Int) (w : World) (hr0 : Kd.C (Kd.slice 83 k83) w A0 l0.length l0) (hc0 : l0.length ≤ c0) (hr1 : Kd.C k83 w A1 l1.length l1) (hc1 : l1.length ≤ c1) (h : impl_RowMany.f k l0 l1 = some r) :
  Calls Try.prog 20 #[.slice A0 l0.length c0, .slice A1 l1.length c1] w fun e w' => e = .returned (.int .i64 r) ∧ Drawn0 w w' := by
 have HR0 := zM hr0
 have HC0 := zM hc0
 clear hr0 hc0
 have HR1 := zM hr1
 have HC1 := zM hc1
 clear hr1 hc1
 have H : (impl_RowMany.l0 k l1 0 l0 (l0.length : Int) 0) = some r := h
 clear h
 have H' := zM H
 clear H
 go_enter Try.func20, Try.ntmps20
 go_wp2
 go_loopg [5, 10] k (fun kq v5 v10 w' => ∃ (x5_1 : Int) (x10_1 : Int), v5 = .int .i64 x5_1 ∧ v10 = .int .i64 x10_1 ∧ Aside0 (impl_RowMany.l0 kq l1 x5_1 l0 (l0.length : Int) x10_1 = some r) ∧ Aside0 (kq ≤ k) ∧ Drawn0 w w')
 case atStart => exact ⟨(0), (0), (by first | rfl | (simp; done) | (simp [*]; done)), (by first | rfl | (simp; done) | (simp [*]; done)), H', ⟨Nat.le_refl _⟩, by repeat (first | exact Drawn0.refl _ | apply Drawn0.step)⟩
 case round =>
  clear H'
  try clear c1
  try clear c2
  try clear p2
  obtain ⟨x5_1, x10_1, rfl, rfl, HA, HK1, ⟨m1, rfl⟩⟩ := hrel
  cases gk with
  | zero => exact absurd HA.out (by simp [impl_RowMany.l0])
  | succ k1 =>
   have H := HA.out
   clear HA
   simp only [impl_RowMany.l0] at H
   by_cases c3 : x10_1 < (l0.length : Int)
   ·
    rw [if_pos c3] at H
    have c3b0 : decide (x10_1 < (l0.length : Int)) = true := decide_eq_true c3
    clear c3
    by_cases c4 : 0 ≤ x10_1
    ·
     rw [if_pos c4] at H
     have c4b0 : decide (0 ≤ x10_1) = true := decide_eq_true c4
     clear c4
     by_cases c5 : x10_1 < (l0.length : Int)
     ·
      rw [if_pos c5] at H
      have c5b0 : decide (x10_1 < (l0.length : Int)) = true := decide_eq_true c5
      clear c5
      replace H := Option.bind_eq_some_iff.mp H
      obtain ⟨t449, A60, H⟩ := H
      replace H : (if t449 = true then (impl_RowMany.l0 k1 l1 (wrap64 (x5_1 + 1)) l0 (l0.length : Int) (wrap64 (x10_1 + 1))) else (impl_RowMany.l0 k1 l1 x5_1 l0 (l0.length : Int) (wrap64 (x10_1 + 1)))) = some r := H
      have A6 := zM A60
      clear A60
      by_cases c7 : t449 = true
      ·
       subst c7
       have H1 : (impl_RowMany.l0 k1 l1 (wrap64 (x5_1 + 1)) l0 (l0.length : Int) (wrap64 (x10_1 + 1))) = some r := by rw [if_pos rfl] at H; exact H
       clear H
       have H := H1
       clear H1
       have H' := zM H
       clear H
       have p448 : 0 ≤ (x10_1 : Int) := zL (by assumption)
       have q448 : x10_1 < (l0.length : Int) := zL (by assumption)
       obtain ⟨ad448, A448_0, c448_0, e448, hx448_0, hl448_0, hi448_0⟩ := at_L4 HR0.out x10_1 p448 q448
       cases e448
       have HR448_0 := zM hi448_0
       have HC448_0 := zM hl448_0
       clear hi448_0 hl448_0
       replace p448 := eq_true p448
       replace q448 := eq_true q448
       go_wp2_with (first | ((with_reducible refine gate_callee (f := 50) rfl ?_); refine goesL_ (some 16) rfl rfl Try.func50 (by kernel_rfl) rfl #[.slice A448_0 (rd_L4 l0 x10_1).length c448_0, .slice A1 l1.length c1] rfl (by (try simp only [List.map_toArray, List.map_cons, List.map_nil]); first | done | rfl | (simp only [List.length_drop, List.length_take]; rfl)) ?_; (with_reducible refine (impl_Value_50.calls k1 _ _ (rd_L4 l0 x10_1) _ _ l1 true _ ?side1 ?side2 ?side3 ?side4 A6.out).mono ?_); (case side1 => repeat (first | exact HR448_0.out | (with_reducible refine zQ ?_ _) | (with_reducible refine zO ?_ _) | (with_reducible refine zP ?_))); (case side2 => exact HC448_0.out); (case side3 => repeat (first | exact HR1.out | (with_reducible refine zQ ?_ _) | (with_reducible refine zO ?_ _) | (with_reducible refine zP ?_))); (case side4 => exact HC1.out); rintro e w' ⟨rfl, ⟨nd, rfl⟩⟩; refine ⟨_, rfl, ?_⟩))
       go_roundg k1
       case measure => have := HK1.out; omega
       case rel => exact ⟨(wrap64 (x5_1 + 1)), (wrap64 (x10_1 + 1)), (by first | rfl | (simp; done) | (simp [*]; done)), (by first | rfl | (simp; done) | (simp [*]; done)), H', ⟨by have := HK1.out; omega⟩, by repeat (first | exact Drawn0.refl _ | apply Drawn0.step)⟩
      ·
       replace c7 := Bool.eq_false_iff.mpr c7
       subst c7
       have H1 : (impl_RowMany.l0 k1 l1 x5_1 l0 (l0.length : Int) (wrap64 (x10_1 + 1))) = some r := by rw [if_neg (show ¬ (false = true) by decide)] at H; exact H
       clear H
       have H := H1
       clear H1
       have H' := zM H
       clear H
       have p448 : 0 ≤ (x10_1 : Int) := zL (by assumption)
       have q448 : x10_1 < (l0.length : Int) := zL (by assumption)
       obtain ⟨ad448, A448_0, c448_0, e448, hx448_0, hl448_0, hi448_0⟩ := at_L4 HR0.out x10_1 p448 q448
       cases e448
       have HR448_0 := zM hi448_0
       have HC448_0 := zM hl448_0
       clear hi448_0 hl448_0
       replace p448 := eq_true p448
       replace q448 := eq_true q448
       go_wp2_with (first | ((with_reducible refine gate_callee (f := 50) rfl ?_); refine goesL_ (some 16) rfl rfl Try.func50 (by kernel_rfl) rfl #[.slice A448_0 (rd_L4 l0 x10_1).length c448_0, .slice A1 l1.length c1] rfl (by (try simp only [List.map_toArray, List.map_cons, List.map_nil]); first | done | rfl | (simp only [List.length_drop, List.length_take]; rfl)) ?_; (with_reducible refine (impl_Value_50.calls k1 _ _ (rd_L4 l0 x10_1) _ _ l1 false _ ?side1 ?side2 ?side3 ?side4 A6.out).mono ?_); (case side1 => repeat (first | exact HR448_0.out | (with_reducible refine zQ ?_ _) | (with_reducible refine zO ?_ _) | (with_reducible refine zP ?_))); (case side2 => exact HC448_0.out); (case side3 => repeat (first | exact HR1.out | (with_reducible refine zQ ?_ _) | (with_reducible refine zO ?_ _) | (with_reducible refine zP ?_))); (case side4 => exact HC1.out); rintro e w' ⟨rfl, ⟨nd, rfl⟩⟩; refine ⟨_, rfl, ?_⟩))
       go_roundg k1
       case measure => have := HK1.out; omega
       case rel => exact ⟨(x5_1), (wrap64 (x10_1 + 1)), (by first | rfl | (simp; done) | (simp [*]; done)), (by first | rfl | (simp; done) | (simp [*]; done)), H', ⟨by have := HK1.out; omega⟩, by repeat (first | exact Drawn0.refl _ | apply Drawn0.step)⟩
     ·
      rw [if_neg c5] at H
      exact absurd H (by simp)
    ·
     rw [if_neg c4] at H
     exact absurd H (by simp)
   ·
    rw [if_neg c3] at H
    have c3b0 : decide (x10_1 < (l0.length : Int)) = false := decide_eq_false c3
    clear c3
    obtain rfl := Option.some.inj H
    go_wp2
    go_ret
    exact ⟨by first | rfl | (simp; done) | (simp [*]; done), by repeat (first | exact Drawn0.refl _ | apply Drawn0.step)⟩
end

section
attribute [local go_sem high] eqA83

/-! ### spec_l3Same: function 51 -/
def spec_l3Same.l0 : Nat → List (S83) → List (S83) → Int → Option (Bool)
 | 0, _, _, _ => none
 | k + 1, x0, x1, x5 => if x5 < (x0.length : Int) then (if 0 ≤ x5 then (if x5 < (x1.length : Int) then (if (!(((rd_T83 x0 x5).f0) == ((rd_T83 x1 x5).f0)) || (!(((rd_T83 x0 x5).f1) == ((rd_T83 x1 x5).f1)) || (!((((rd_T83 x0 x5).f2).toList) == (((rd_T83 x1 x5).f2).toList))))) = true then (some false) else (spec_l3Same.l0 k x0 x1 (wrap64 (x5 + 1)))) else (none)) else (none)) else (some true)
def spec_l3Same.f (k : Nat) (l0 : List (S83)) (l1 : List (S83)) : Option (Bool) := if (l0.length : Int) = (l1.length : Int) then (spec_l3Same.l0 k l0 l1 0) else (some false)
theorem spec_l3Same.mono_l : ∀ k, (∀ y0 y1 y2, LeO (spec_l3Same.l0 k y0 y1 y2) (spec_l3Same.l0 (k + 1) y0 y1 y2))
 | 0 => fun _ _ _ r h => by simp [spec_l3Same.l0] at h
 | k + 1 => by
  have ih0 := spec_l3Same.mono_l k
  ·
   intro y0 y1 y2
   unfold spec_l3Same.l0
   repeat' first
   | (with_reducible exact ih0 _ _ _)
   | (with_reducible exact LeO.refl _)
   | (with_reducible exact LeO.none _)
   | (with_reducible refine LeO.ite ?_ ?_)
   | (with_reducible refine LeO.bind ?_ (fun _ => ?_))
   | exact ih0 _ _ _
   | exact LeO.none _
   | refine LeO.ite ?_ ?_
   | refine LeO.bind ?_ (fun _ => ?_)
theorem spec_l3Same.mono : ∀ a0 a1 k, LeO (spec_l3Same.f k a0 a1) (spec_l3Same.f (k + 1) a0 a1) := by
 intro a0 a1 k
 have ih0 := spec_l3Same.mono_l k
 unfold spec_l3Same.f
 repeat' first
   | (with_reducible exact ih0 _ _ _)
   | (with_reducible exact LeO.refl _)
   | (with_reducible exact LeO.none _)
   | (with_reducible refine LeO.ite ?_ ?_)
   | (with_reducible refine LeO.bind ?_ (fun _ => ?_))
   | exact ih0 _ _ _
   | exact LeO.none _
   | refine LeO.ite ?_ ?_
   | refine LeO.bind ?_ (fun _ => ?_)
set_option maxHeartbeats 8000000 in
set_option maxRecDepth 100000 in
theorem spec_l3Same.calls (k : Nat) (A0 : Option Addr) (c0 : Nat) (l0 : List (S83)) (A1 : Option Addr) (c1 : Nat) (l1 : List (S83)) (r : Bool) (w : World) (hr0 : Kd.C k83 w A0 l0.length l0) (hc0 : l0.length ≤ c0) (hr1 : Kd.C k83 w A1 l1.length l1) (hc1 : l1.length ≤ c1) (h : spec_l3Same.f k l0 l1 = some r) :
  Calls Try.prog 51 #[.slice A0 l0.length c0, .slice A1 l1.length c1] w fun e w' => e = .returned (.bool r) ∧ Drawn0 w w' := by
 have hu83 := Try.underlying83
 have HR0 := zM hr0
 have HC0 := zM hc0
 clear hr0 hc0
 have HR1 := zM hr1
 have HC1 := zM hc1
 clear hr1 hc1
 have H : (if (l0.length : Int) = (l1.length : Int) then (spec_l3Same.l0 k l0 l1 0) else (some false)) = some r := h
 clear h
 by_cases c3 : (l0.length : Int) = (l1.length : Int)
 ·
  rw [if_pos c3] at H
  have c3b0 : ((l0.length : Int) == (l1.length : Int)) = true := beq_iff_eq.mpr c3
  have c3b1 : ((l0.length : Int) != (l1.length : Int)) = false := bne_eq_false_iff_eq.mpr c3
  have c3b2 : (l0.length == l1.length) = true := by first | simpa using c3 | (simp at c3 ⊢; omega)
  clear c3
  have H' := zM H
  clear H
  go_enter Try.func51, Try.ntmps51
  go_wp2
  repeat (go_quiet (fail); try go_wp2)
  go_loopg [5] k (fun kq v5 w' => ∃ (x5_1 : Int), v5 = .int .i64 x5_1 ∧ Aside0 (spec_l3Same.l0 kq l0 l1 x5_1 = some r) ∧ Aside0 (kq ≤ k) ∧ Drawn0 w w')
  case atStart => exact ⟨(0), (by first | rfl | (simp; done) | (simp [*]; done)), H', ⟨Nat.le_refl _⟩, by repeat (first | exact Drawn0.refl _ | apply Drawn0.step)⟩
  case round =>
   clear H'
   try clear c1
   try clear p2
   try clear c3
   try clear c3b0
   try clear c3b1
   try clear c3b2
   obtain ⟨x5_1, rfl, HA, HK1, ⟨m1, rfl⟩⟩ := hrel
   cases gk with
   | zero => exact absurd HA.out (by simp [spec_l3Same.l0])
   | succ k1 =>
    have H := HA.out
    clear HA
    simp only [spec_l3Same.l0] at H
    by_cases c4 : x5_1 < (l0.length : Int)
    ·
     rw [if_pos c4] at H
     have c4b0 : decide (x5_1 < (l0.length : Int)) = true := decide_eq_true c4
     clear c4
     by_cases c5 : 0 ≤ x5_1
     ·
      rw [if_pos c5] at H
      have c5b0 : decide (0 ≤ x5_1) = true := decide_eq_true c5
      clear c5
      by_cases c6 : x5_1 < (l1.length : Int)
      ·
       rw [if_pos c6] at H
       have c6b0 : decide (x5_1 < (l1.length : Int)) = true := decide_eq_true c6
       clear c6
       by_cases c7 : (!(((rd_T83 l0 x5_1).f0) == ((rd_T83 l1 x5_1).f0)) || (!(((rd_T83 l0 x5_1).f1) == ((rd_T83 l1 x5_1).f1)) || (!((((rd_T83 l0 x5_1).f2).toList) == (((rd_T83 l1 x5_1).f2).toList))))) = true
       ·
        rw [if_pos c7] at H
        have c7b0 : (!(((rd_T83 l0 x5_1).f0) == ((rd_T83 l1 x5_1).f0)) || (!(((rd_T83 l0 x5_1).f1) == ((rd_T83 l1 x5_1).f1)) || (!((((rd_T83 l0 x5_1).f2).toList) == (((rd_T83 l1 x5_1).f2).toList))))) = true := c7
        clear c7
        obtain rfl := Option.some.inj H
        have p450 : 0 ≤ (x5_1 : Int) := zL (by assumption)
        have q450 : x5_1 < (l0.length : Int) := zL (by assumption)
        obtain ⟨ad450, e450, hx450_0, hx450_1, hx450_2⟩ := at_T83 HR0.out x5_1 p450 q450
        cases e450
        replace p450 := eq_true p450
        replace q450 := eq_true q450
        have p451 : 0 ≤ (x5_1 : Int) := zL (by assumption)
        have q451 : x5_1 < (l1.length : Int) := zL (by assumption)
        obtain ⟨ad451, e451, hx451_0, hx451_1, hx451_2⟩ := at_T83 HR1.out x5_1 p451 q451
        cases e451
        replace p451 := eq_true p451
        replace q451 := eq_true q451
        go_wp2
        repeat (go_quiet (fail); try go_wp2)
        go_ret
        exact ⟨by first | rfl | (simp; done) | (simp [*]; done), by repeat (first | exact Drawn0.refl _ | apply Drawn0.step)⟩
       ·
        rw [if_neg c7] at H
        have c7b0 : (!(((rd_T83 l0 x5_1).f0) == ((rd_T83 l1 x5_1).f0)) || (!(((rd_T83 l0 x5_1).f1) == ((rd_T83 l1 x5_1).f1)) || (!((((rd_T83 l0 x5_1).f2).toList) == (((rd_T83 l1 x5_1).f2).toList))))) = false := by simpa using c7
        clear c7
        have H' := zM H
        clear H
        have p450 : 0 ≤ (x5_1 : Int) := zL (by assumption)
        have q450 : x5_1 < (l0.length : Int) := zL (by assumption)
        obtain ⟨ad450, e450, hx450_0, hx450_1, hx450_2⟩ := at_T83 HR0.out x5_1 p450 q450
        cases e450
        replace p450 := eq_true p450
        replace q450 := eq_true q450
        have p451 : 0 ≤ (x5_1 : Int) := zL (by assumption)
        have q451 : x5_1 < (l1.length : Int) := zL (by assumption)
        obtain ⟨ad451, e451, hx451_0, hx451_1, hx451_2⟩ := at_T83 HR1.out x5_1 p451 q451
        cases e451
        replace p451 := eq_true p451
        replace q451 := eq_true q451
        go_wp2
        repeat (go_quiet (fail); try go_wp2)
        go_roundg k1
        case measure => have := HK1.out; omega
        case rel => exact ⟨(wrap64 (x5_1 + 1)), (by first | rfl | (simp; done) | (simp [*]; done)), H', ⟨by have := HK1.out; omega⟩, by repeat (first | exact Drawn0.refl _ | apply Drawn0.step)⟩
      ·
       rw [if_neg c6] at H
       exact absurd H (by simp)
     ·
      rw [if_neg c5] at H
      exact absurd H (by simp)
    ·
     rw [if_neg c4] at H
     have c4b0 : decide (x5_1 < (l0.length : Int)) = false := decide_eq_false c4
     clear c4
     obtain rfl := Option.some.inj H
     go_wp2
     repeat (go_quiet (fail); try go_wp2)
     go_ret
     exact ⟨by first | rfl | (simp; done) | (simp [*]; done), by repeat (first | exact Drawn0.refl _ | apply Drawn0.step)⟩
 ·
  rw [if_neg c3] at H
  have c3b0 : ((l0.length : Int) == (l1.length : Int)) = false := beq_eq_false_iff_ne.mpr c3
  have c3b1 : ((l0.length : Int) != (l1.length : Int)) = true := bne_iff_ne.mpr c3
  have c3b2 : (l0.length == l1.length) = false := by first | simpa using c3 | (simp at c3 ⊢; omega)
  obtain rfl := Option.some.inj H
  go_enter Try.func51, Try.ntmps51
  go_wp2
  repeat (go_quiet (fail); try go_wp2)
  go_ret
  exact ⟨by first | rfl | (simp; done) | (simp [*]; done), by repeat (first | exact Drawn0.refl _ | apply Drawn0.step)⟩
end

section
/-! ### spec_RowMany: function 21 -/
def spec_RowMany.l0 : Nat → List (List (S83)) → List (S83) → Int → Int → Option (Int)
 | 0, _, _, _, _ => none
 | k + 1, x0, x1, x5, x6 => if x6 < (x0.length : Int) then (if 0 ≤ x6 then ((spec_l3Same.f k (rd_L4 x0 x6) x1).bind fun t453 => (if t453 = true then (spec_RowMany.l0 k x0 x1 (wrap64 (x5 + 1)) (wrap64 (x6 + 1))) else (spec_RowMany.l0 k x0 x1 x5 (wrap64 (x6 + 1))))) else (none)) else (some x5)
def spec_RowMany.f (k : Nat) (l0 : List (List (S83))) (l1 : List (S83)) : Option (Int) := spec_RowMany.l0 k l0 l1 0 0
theorem spec_RowMany.mono_l : ∀ k, (∀ y0 y1 y2 y3, LeO (spec_RowMany.l0 k y0 y1 y2 y3) (spec_RowMany.l0 (k + 1) y0 y1 y2 y3))
 | 0 => fun _ _ _ _ r h => by simp [spec_RowMany.l0] at h
 | k + 1 => by
  have ih0 := spec_RowMany.mono_l k
  ·
   intro y0 y1 y2 y3
   unfold spec_RowMany.l0
   repeat' first
   | (with_reducible exact ih0 _ _ _ _)
   | (with_reducible exact spec_l3Same.mono _ _ _)
   | (with_reducible exact LeO.refl _)
   | (with_reducible exact LeO.none _)
   | (with_reducible refine LeO.ite ?_ ?_)
   | (with_reducible refine LeO.bind ?_ (fun _ => ?_))
   | exact ih0 _ _ _ _
   | exact spec_l3Same.mono _ _ _
   | exact LeO.none _
   | refine LeO.ite ?_ ?_
   | refine LeO.bind ?_ (fun _ => ?_)
theorem spec_RowMany.mono : ∀ a0 a1 k, LeO (spec_RowMany.f k a0 a1) (spec_RowMany.f (k + 1) a0 a1) := by
 intro a0 a1 k
 have ih0 := spec_RowMany.mono_l k
 unfold spec_RowMany.f
 repeat' first
   | (with_reducible exact ih0 _ _ _ _)
   | (with_reducible exact spec_l3Same.mono _ _ _)
   | (with_reducible exact LeO.refl _)
   | (with_reducible exact LeO.none _)
   | (with_reducible refine LeO.ite ?_ ?_)
   | (with_reducible refine LeO.bind ?_ (fun _ => ?_))
   | exact ih0 _ _ _ _
   | exact spec_l3Same.mono _ _ _
   | exact LeO.none _
   | refine LeO.ite ?_ ?_
   | refine LeO.bind ?_ (fun _ => ?_)
set_option maxHeartbeats 8000000 in
set_option maxRecDepth 100000 in
theorem spec_RowMany.calls (k : Nat) (A0 : Option Addr) (c0 : Nat) (l0 : List (List (S83))) (A1 : Option Addr) (c1 : Nat) (l1 : List (S83)) (r : Int) (w : World) (hr0 : Kd.C (Kd.slice 83 k83) w A0 l0.length l0) (hc0 : l0.length ≤ c0) (hr1 : Kd.C k83 w A1 l1.length l1) (hc1 : l1.length ≤ c1) (h : spec_RowMany.f k l0 l1 = some r) :
  Calls Try.prog 21 #[.slice A0 l0.length c0, .slice A1 l1.length c1] w fun e w' => e = .returned (.int .i64 r) ∧ Drawn0 w w' := by
 have HR0 := zM hr0
 have HC0 := zM hc0
 clear hr0 hc0
 have HR1 := zM hr1
 have HC1 := zM hc1
 clear hr1 hc1
 have H : (spec_RowMany.l0 k l0 l1 0 0) = some r := h
 clear h
 have H' := zM H
 clear H
 go_enter Try.func21, Try.ntmps21
 go_wp2
 go_loopg [5, 6] k (fun kq v5 v6 w' => ∃ (x5_1 : Int) (x6_1 : Int), v5 = .int .i64 x5_1 ∧ v6 = .int .i64 x6_1 ∧ Aside0 (spec_RowMany.l0 kq l0 l1 x5_1 x6_1 = some r) ∧ Aside0 (kq ≤ k) ∧ Drawn0 w w')
 case atStart => exact ⟨(0), (0), (by first | rfl | (simp; done) | (simp [*]; done)), (by first | rfl | (simp; done) | (simp [*]; done)), H', ⟨Nat.le_refl _⟩, by repeat (first | exact Drawn0.refl _ | apply Drawn0.step)⟩
 case round =>
  clear H'
  try clear c1
  try clear c2
  try clear p2
  obtain ⟨x5_1, x6_1, rfl, rfl, HA, HK1, ⟨m1, rfl⟩⟩ := hrel
  cases gk with
  | zero => exact absurd HA.out (by simp [spec_RowMany.l0])
  | succ k1 =>
   have H := HA.out
   clear HA
   simp only [spec_RowMany.l0] at H
   by_cases c3 : x6_1 < (l0.length : Int)
   ·
    rw [if_pos c3] at H
    have c3b0 : decide (x6_1 < (l0.length : Int)) = true := decide_eq_true c3
    clear c3
    by_cases c4 : 0 ≤ x6_1
    ·
     rw [if_pos c4] at H
     have c4b0 : decide (0 ≤ x6_1) = true := decide_eq_true c4
     clear c4
     replace H := Option.bind_eq_some_iff.mp H
     obtain ⟨t453, A50, H⟩ := H
     replace H : (if t453 = true then (spec_RowMany.l0 k1 l0 l1 (wrap64 (x5_1 + 1)) (wrap64 (x6_1 + 1))) else (spec_RowMany.l0 k1 l0 l1 x5_1 (wrap64 (x6_1 + 1)))) = some r := H
     have A5 := zM A50
     clear A50
     by_cases c6 : t453 = true
     ·
      subst c6
      have H1 : (spec_RowMany.l0 k1 l0 l1 (wrap64 (x5_1 + 1)) (wrap64 (x6_1 + 1))) = some r := by rw [if_pos rfl] at H; exact H
      clear H
      have H := H1
      clear H1
      have H' := zM H
      clear H
      have p452 : 0 ≤ (x6_1 : Int) := zL (by assumption)
      have q452 : x6_1 < (l0.length : Int) := zL (by assumption)
      obtain ⟨ad452, A452_0, c452_0, e452, hx452_0, hl452_0, hi452_0⟩ := at_L4 HR0.out x6_1 p452 q452
      cases e452
      have HR452_0 := zM hi452_0
      have HC452_0 := zM hl452_0
      clear hi452_0 hl452_0
      replace p452 := eq_true p452
      replace q452 := eq_true q452
      go_wp2_with (first | ((with_reducible refine gate_callee (f := 51) rfl ?_); refine goesL_ (some 18) rfl rfl Try.func51 (by kernel_rfl) rfl #[.slice A452_0 (rd_L4 l0 x6_1).length c452_0, .slice A1 l1.length c1] rfl (by (try simp only [List.map_toArray, List.map_cons, List.map_nil]); first | done | rfl | (simp only [List.length_drop, List.length_take]; rfl)) ?_; (with_reducible refine (spec_l3Same.calls k1 _ _ (rd_L4 l0 x6_1) _ _ l1 true _ ?side1 ?side2 ?side3 ?side4 A5.out).mono ?_); (case side1 => repeat (first | exact HR452_0.out | (with_reducible refine zQ ?_ _) | (with_reducible refine zO ?_ _) | (with_reducible refine zP ?_))); (case side2 => exact HC452_0.out); (case side3 => repeat (first | exact HR1.out | (with_reducible refine zQ ?_ _) | (with_reducible refine zO ?_ _) | (with_reducible refine zP ?_))); (case side4 => exact HC1.out); rintro e w' ⟨rfl, ⟨nd, rfl⟩⟩; refine ⟨_, rfl, ?_⟩))
      go_roundg k1
      case measure => have := HK1.out; omega
      case rel => exact ⟨(wrap64 (x5_1 + 1)), (wrap64 (x6_1 + 1)), (by first | rfl | (simp; done) | (simp [*]; done)), (by first | rfl | (simp; done) | (simp [*]; done)), H', ⟨by have := HK1.out; omega⟩, by repeat (first | exact Drawn0.refl _ | apply Drawn0.step)⟩
     ·
      replace c6 := Bool.eq_false_iff.mpr c6
      subst c6
      have H1 : (spec_RowMany.l0 k1 l0 l1 x5_1 (wrap64 (x6_1 + 1))) = some r := by rw [if_neg (show ¬ (false = true) by decide)] at H; exact H
      clear H
      have H := H1
      clear H1
      have H' := zM H
      clear H
      have p452 : 0 ≤ (x6_1 : Int) := zL (by assumption)
      have q452 : x6_1 < (l0.length : Int) := zL (by assumption)
      obtain ⟨ad452, A452_0, c452_0, e452, hx452_0, hl452_0, hi452_0⟩ := at_L4 HR0.out x6_1 p452 q452
      cases e452
      have HR452_0 := zM hi452_0
      have HC452_0 := zM hl452_0
      clear hi452_0 hl452_0
      replace p452 := eq_true p452
      replace q452 := eq_true q452
      go_wp2_with (first | ((with_reducible refine gate_callee (f := 51) rfl ?_); refine goesL_ (some 18) rfl rfl Try.func51 (by kernel_rfl) rfl #[.slice A452_0 (rd_L4 l0 x6_1).length c452_0, .slice A1 l1.length c1] rfl (by (try simp only [List.map_toArray, List.map_cons, List.map_nil]); first | done | rfl | (simp only [List.length_drop, List.length_take]; rfl)) ?_; (with_reducible refine (spec_l3Same.calls k1 _ _ (rd_L4 l0 x6_1) _ _ l1 false _ ?side1 ?side2 ?side3 ?side4 A5.out).mono ?_); (case side1 => repeat (first | exact HR452_0.out | (with_reducible refine zQ ?_ _) | (with_reducible refine zO ?_ _) | (with_reducible refine zP ?_))); (case side2 => exact HC452_0.out); (case side3 => repeat (first | exact HR1.out | (with_reducible refine zQ ?_ _) | (with_reducible refine zO ?_ _) | (with_reducible refine zP ?_))); (case side4 => exact HC1.out); rintro e w' ⟨rfl, ⟨nd, rfl⟩⟩; refine ⟨_, rfl, ?_⟩))
      go_roundg k1
      case measure => have := HK1.out; omega
      case rel => exact ⟨(x5_1), (wrap64 (x6_1 + 1)), (by first | rfl | (simp; done) | (simp [*]; done)), (by first | rfl | (simp; done) | (simp [*]; done)), H', ⟨by have := HK1.out; omega⟩, by repeat (first | exact Drawn0.refl _ | apply Drawn0.step)⟩
    ·
     rw [if_neg c4] at H
     exact absurd H (by simp)
   ·
    rw [if_neg c3] at H
    have c3b0 : decide (x6_1 < (l0.length : Int)) = false := decide_eq_false c3
    clear c3
    obtain rfl := Option.some.inj H
    go_wp2
    go_ret
    exact ⟨by first | rfl | (simp; done) | (simp [*]; done), by repeat (first | exact Drawn0.refl _ | apply Drawn0.step)⟩

/-! ### impl_rowsHas: function 52 -/
def impl_rowsHas.f (k : Nat) (l0 : List (List (S83))) (l1 : List (S83)) : Option (Bool) := (impl_RowMany.f k l0 l1).bind fun t454 => (some (decide (t454 > 0)))
theorem impl_rowsHas.mono : ∀ a0 a1 k, LeO (impl_rowsHas.f k a0 a1) (impl_rowsHas.f (k + 1) a0 a1) := by
 intro a0 a1 k
 unfold impl_rowsHas.f
 repeat' first
   | (with_reducible exact impl_RowMany.mono _ _ _)
   | (with_reducible exact LeO.refl _)
   | (with_reducible exact LeO.none _)
   | (with_reducible refine LeO.ite ?_ ?_)
   | (with_reducible refine LeO.bind ?_ (fun _ => ?_))
   | exact impl_RowMany.mono _ _ _
   | exact LeO.none _
   | refine LeO.ite ?_ ?_
   | refine LeO.bind ?_ (fun _ => ?_)
set_option maxHeartbeats 8000000 in
set_option maxRecDepth 100000 in
theorem impl_rowsHas.calls (k : Nat) (A0 : Option Addr) (c0 : Nat) (l0 : List (List (S83))) (A1 : Option Addr) (c1 : Nat) (l1 : List (S83)) (r : Bool) (w : World) (hr0 : Kd.C (Kd.slice 83 k83) w A0 l0.length l0) (hc0 : l0.length ≤ c0) (hr1 : Kd.C k83 w A1 l1.length l1) (hc1 : l1.length ≤ c1) (h : impl_rowsHas.f k l0 l1 = some r) :
  Calls Try.prog 52 #[.slice A0 l0.length c0, .slice A1 l1.length c1] w fun e w' => e = .returned (.bool r) ∧ Drawn0 w w' := by
 have HR0 := zM hr0
 have HC0 := zM hc0
 clear hr0 hc0
 have HR1 := zM hr1
 have HC1 := zM hc1
 clear hr1 hc1
 have H : ((impl_RowMany.f k l0 l1).bind fun t454 => (some (decide (t454 > 0)))) = some r := h
 clear h
 replace H := Option.bind_eq_some_iff.mp H
 obtain ⟨t454, A30, H⟩ := H
 replace H : (some (decide (t454 > 0))) = some r := H
 have A3 := zM A30
 clear A30
 obtain rfl := Option.some.inj H
 go_enter Try.func52, Try.ntmps52
 go_wp2_with (first | ((with_reducible refine gate_callee (f := 20) rfl ?_); refine goesL_ (some 7) rfl rfl Try.func20 (by kernel_rfl) rfl #[.slice A0 l0.length c0, .slice A1 l1.length c1] rfl (by (try simp only [List.map_toArray, List.map_cons, List.map_nil]); first | done | rfl | (simp only [List.length_drop, List.length_take]; rfl)) ?_; (with_reducible refine (impl_RowMany.calls k _ _ l0 _ _ l1 t454 _ ?side1 ?side2 ?side3 ?side4 A3.out).mono ?_); (case side1 => repeat (first | exact HR0.out | (with_reducible refine zQ ?_ _) | (with_reducible refine zO ?_ _) | (with_reducible refine zP ?_))); (case side2 => exact HC0.out); (case side3 => repeat (first | exact HR1.out | (with_reducible refine zQ ?_ _) | (with_reducible refine zO ?_ _) | (with_reducible refine zP ?_))); (case side4 => exact HC1.out); rintro e w' ⟨rfl, ⟨nd, rfl⟩⟩; refine ⟨_, rfl, ?_⟩))
 go_ret
 exact ⟨by first | rfl | (simp; done) | (simp [*]; done), by repeat (first | exact Drawn0.refl _ | apply Drawn0.step)⟩

-- NOT PRINTED: function 115 (impl_Value_115)

/-! ### impl_Value_94: function 94 -/
theorem impl_Value_94.clip (A0 : Option Addr) (n c : Nat) (w : World) (hn : n ≤ c) :
  Calls Try.prog 115 #[.slice A0 n c] w fun e w' => e = .returned (.slice A0 n n) ∧ w' = w := by
 have hu39 := Try.underlying39
 have h0 : decide ((0 : Int) ≤ (n : Int)) = true := decide_eq_true (by omega)
 have h1 : decide ((n : Int) ≤ (c : Int)) = true := decide_eq_true (by omega)
 have h2 : decide ((n : Int) ≤ (n : Int)) = true := decide_eq_true (by omega)
 go_enter Try.func115, Try.ntmps115
 go_wp2
 go_ret
 exact ⟨rfl, rfl⟩
def impl_Value_94.f (l0 : List (S83)) : Option ((List (S83))) := if l0.length ≤ 2000000 then some l0 else none
theorem impl_Value_94.calls (A0 : Option Addr) (c0 : Nat) (l0 : List (S83)) (r : List (S83)) (w : World) (hr0 : Kd.C k83 w A0 l0.length l0) (hc0 : l0.length ≤ c0) (h : impl_Value_94.f l0 = some r) :
  Calls Try.prog 94 #[.slice A0 l0.length c0] w fun e w' => ∃ v0_ : Value, e = .returned (v0_) ∧ Kd.R k83 83 w' w.heap.size (fun _ => True) v0_ r ∧ Below w.heap.size w w' := by
 have hu39 := Try.underlying39
 have hu83 := Try.underlying83
 have HR0 := zM hr0
 have HB := zM (Below.refl w.heap.size w)
 clear hr0
 unfold impl_Value_94.f at h
 by_cases hl : l0.length ≤ 2000000
 ·
  rw [if_pos hl] at h
  obtain rfl := Option.some.inj h
  by_cases h0 : l0.length = 0
  ·
   have hz : ((l0.length : Int) == 0) = true := by simp [h0]
   have hnil : l0 = [] := List.length_eq_zero_iff.1 h0
   go_enter Try.func94, Try.ntmps94
   go_wp2
   go_ret
   refine ⟨_, rfl, ?_, HB.out⟩
   first | exact Kd.R_nil _ _ _ _ _ | (rw [hnil]; exact Kd.R_nil _ _ _ _ _)
  ·
   have hz : ((l0.length : Int) == 0) = false := by simp [h0]
   go_enter Try.func94, Try.ntmps94
   go_wp2_with (first | ((with_reducible refine gate_builtin (b := .append) rfl ?_); at_builtin; refine Kd.R_append_rows k83 (w0 := w) w.heap.size rfl _ (.tmp 6) 39 83 (.agg #[(.int .i64 0), (.int .i64 0), (.string ⟨#[]⟩)]) 32 rfl Try.underlying39 info83 rfl (by decide) (by omega) (.slice none 0 0) [] l0 _ _ _ (fun _ => True) (fun _ => False) rfl rfl (Kd.R_nil _ _ _ _ _) HR0.out (fun _ _ h => h) (fun _ h => h.elim) (fun _ _ => trivial) HB.out (Nat.le_refl _) (by simp only [List.length_nil]; omega) ?_; intro v1 w1 ho hb hg hat; rw [List.nil_append] at ho; have HO := zM ho; have HB1 := zM hb; clear ho hb hg hat; obtain ⟨A1, c1, e1⟩ := Kd.R_slice HO.out; subst e1) | (go_at_call 115; (with_reducible refine (impl_Value_94.clip _ _ _ _ ?sideq).mono ?_); (case sideq => exact (Kd.R_reads' HO.out).2.1); rintro e w2 ⟨rfl, rfl⟩))
   go_ret
   exact ⟨_, rfl, Kd.R_clip HO.out, HB1.out⟩
 ·
  rw [if_neg hl] at h
  cases h

-- NOT PRINTED: function 95 (impl_Value_95)
end

section
/-! ### impl_rowsCopy: function 53 -/
theorem impl_rowsCopy.clip (A0 : Option Addr) (n c : Nat) (w : World) (hn : n ≤ c) :
  Calls Try.prog 95 #[.slice A0 n c] w fun e w' => e = .returned (.slice A0 n n) ∧ w' = w := by
 have hu38 := Try.underlying38
 have h0 : decide ((0 : Int) ≤ (n : Int)) = true := decide_eq_true (by omega)
 have h1 : decide ((n : Int) ≤ (c : Int)) = true := decide_eq_true (by omega)
 have h2 : decide ((n : Int) ≤ (n : Int)) = true := decide_eq_true (by omega)
 go_enter Try.func95, Try.ntmps95
 go_wp2
 go_ret
 exact ⟨rfl, rfl⟩
theorem impl_rowsCopy.S_clip {α : Type} {d : Kd α} {e : Nat} {w : World} {base : Nat} {ok : Nat → Prop} {A : Option Addr} {n c : Nat} {xs : List α} (h : Kd.S d e w base ok (.slice A n c) xs) : Kd.S d e w base ok (.slice A n n) xs := by
 obtain ⟨f, hf⟩ := h
 exact ⟨f, Kd.R_clip hf⟩
def impl_rowsCopy.f (l0 : List (List (S83))) : Option (List (List (S83))) := if l0.length ≤ 2000000 ∧ ∀ r ∈ l0, r.length ≤ 2000000 then some l0 else none
set_option maxHeartbeats 8000000 in
set_option maxRecDepth 100000 in
theorem impl_rowsCopy.calls (A0 : Option Addr) (c0 : Nat) (l0 : List (List (S83))) (r : List (List (S83))) (w : World) (hr0 : Kd.C (Kd.slice 83 k83) w A0 l0.length l0) (hc0 : l0.length ≤ c0) (h : impl_rowsCopy.f l0 = some r) :
  Calls Try.prog 53 #[.slice A0 l0.length c0] w fun e w' => ∃ v0_ : Value, e = .returned (v0_) ∧ Kd.S (Kd.slice 83 k83) 39 w' w.heap.size (fun _ => True) v0_ r ∧ Below w.heap.size w w' := by
 have hu38 := Try.underlying38
 have hu39 := Try.underlying39
 have HR0 := zM hr0
 clear hr0
 unfold impl_rowsCopy.f at h
 by_cases hl : l0.length ≤ 2000000 ∧ ∀ r ∈ l0, r.length ≤ 2000000
 case neg => rw [if_neg hl] at h; cases h
 rw [if_pos hl] at h
 obtain rfl := Option.some.inj h
 clear h
 have HL := zM hl.2
 have hln := hl.1
 clear hl
 obtain ⟨n, hn⟩ : ∃ n, l0.length = n := ⟨_, rfl⟩
 rw [hn] at HR0 hc0 hln ⊢
 have HN := zM hn
 clear hn
 go_enter Try.func53, Try.ntmps53
 go_wp2
 go_loopg [3, 5, 8] n (fun gg s3 _ s8 wr => ∃ kk : Nat, kk ≤ n ∧ n - kk ≤ gg ∧ s8 = .int .i64 kk ∧ Aside0 (Kd.S (Kd.slice 83 k83) 39 wr w.heap.size (fun _ => True) s3 (l0.take kk)) ∧ Aside0 (Below w.heap.size w wr))
 case atStart => exact ⟨0, Nat.zero_le _, by omega, rfl, ⟨by rw [List.take_zero]; exact Kd.S_nil _ _ _ _ _⟩, ⟨Below.refl _ w⟩⟩
 case round =>
  obtain ⟨kk, hkk, hg, rfl, HO, HB⟩ := hrel
  have hlk : (l0.take kk).length = kk := by rw [List.length_take, HN.out]; omega
  obtain ⟨Ao, co, eo⟩ := Kd.S_slice HO.out
  rw [hlk] at eo
  subst eo
  by_cases hlt : kk < n
  ·
   have hltz : decide ((kk : Int) < (n : Int)) = true := decide_eq_true (by omega)
   obtain ⟨ad, hA, hc⟩ := HR0.out.2.2 (by omega)
   subst hA
   have hkl : kk < l0.length := by rw [HN.out]; exact hlt
   obtain ⟨cs, hcl, hK, hcell⟩ := hc kk (l0[kk]'hkl) (List.getElem?_eq_getElem hkl)
   obtain ⟨A1, c1, rfl, hlc, hC1⟩ := hK
   have hcl2 := HL.out _ (List.getElem_mem hkl)
   have HX := zM (show l0.take (kk + 1) = l0.take kk ++ [l0[kk]'hkl] from List.take_succ_eq_append_getElem hkl)
   obtain ⟨y, hy⟩ : ∃ y, l0[kk]'hkl = y := ⟨_, rfl⟩
   rw [hy] at HX hcl2 hlc hC1 hcell
   clear hy
   have l2 : wr.cell? (ad.add kk) = some (.slice A1 y.length c1) := by
    have h1 := pw_cell_below HB.out (hcell 0 _ rfl)
    rw [show (Kd.slice 83 k83).sz = 1 from rfl, Nat.mul_one, Nat.add_zero] at h1
    exact h1
   have HC1 := zM (Kd.C_below hC1 HB.out)
   have HLC := zM hlc
   have hcf : Aside0 (impl_Value_94.f y = some y) := ⟨by unfold impl_Value_94.f; rw [if_pos hcl2]⟩
   have HLK := zM hlk
   clear hcell hC1 hc hcl hlc hlk hcl2
   go_wp2_with (first | (go_at_call 94; (with_reducible refine (impl_Value_94.calls A1 c1 y y _ HC1.out HLC.out hcf.out).mono ?_); rintro e w2 ⟨v2, rfl, ho2, hb2⟩; have HO2 := zM (Kd.R_lower ho2 (zI HB.out)); have HOe := zM (Kd.S_elder' HO.out (Kd.R_base ho2) hb2); have HB2 := zM (zG HB.out hb2); obtain ⟨A2, c2, e2⟩ := Kd.R_slice ho2; subst e2; clear ho2 hb2 HC1) | ((with_reducible refine gate_builtin (b := .append) rfl ?_); at_builtin; refine Kd.S_append (Kd.slice 83 k83) (w0 := w) w.heap.size rfl (.tmp 12) (.tmp 15) 38 39 (.slice none 0 0) 24 rfl Try.underlying38 info39 rfl (by decide) (by omega) (.slice Ao kk co) (l0.take kk) y [.slice A2 y.length c2] (fun _ => True) (fun k_ => some k_ = (.slice A2 y.length c2 : Value).ownBlock) rfl rfl ?aP ?aK ?aF ?aO ?aB ?aS ?aL ?_; (case aP => exact Kd.M_row (Kd.R_tight rfl HO2.out)); (case aK => exact (fun k_ hk_ => ((Kd.R_apart' (HO2.out) (Kd.S_typed HOe.out) (by decide)).1 k_ hk_.symm))); (case aF => exact fun _ _ => trivial); (case aO => exact Kd.S_mono HOe.out (fun k_ hk => ⟨trivial, fun e_ => hk.2 e_⟩)); (case aB => exact HB2.out); (case aS => exact zI HB2.out); (case aL => rw [HLK.out]; omega); intro v3 w3 ho3 hb3 hg3 hat3; rw [← HX.out] at ho3; have HO3 := zM ho3; have HB3 := zM hb3; clear ho3 hb3 hg3 hat3))
   go_roundg (n - (kk + 1))
   case measure => omega
   case rel => exact ⟨kk + 1, by omega, by omega, by go_num, HO3, HB3⟩
  ·
   have hltz : decide ((kk : Int) < (n : Int)) = false := decide_eq_false (by omega)
   have hkn : kk = n := by omega
   subst hkn
   have hfull : l0.take kk = l0 := List.take_of_length_le (by rw [HN.out]; omega)
   rw [hfull] at HO
   have hco := (Kd.S_reads' HO.out).2.1
   have HCO := zM hco
   clear hco hfull hlk
   go_wp2_with (go_at_call 95; (with_reducible refine (impl_rowsCopy.clip _ _ _ _ HCO.out).mono ?_); rintro e w2 ⟨rfl, rfl⟩)
   go_ret
   exact ⟨_, rfl, impl_rowsCopy.S_clip HO.out, HB.out⟩
end

section
/-! ### impl_RowsOnce: function 22 -/
def impl_RowsOnce.l0 : Nat → List (List (S83)) → List (List (S83)) → Int → Int → Option ((List (List (S83))))
 | 0, _, _, _, _ => none
 | k + 1, x3, x6, x7, x8 => if x8 < x7 then (if 0 ≤ x8 then (if x8 < (x6.length : Int) then ((impl_rowsHas.f k x3 (rd_L4 x6 x8)).bind fun t456 => (if t456 = true then (impl_RowsOnce.l0 k x3 x6 x7 (wrap64 (x8 + 1))) else (if x3.length < 5864062014805 then (impl_RowsOnce.l0 k (x3 ++ [rd_L4 x6 x8]) x6 x7 (wrap64 (x8 + 1))) else (none)))) else (none)) else (none)) else ((impl_rowsCopy.f x3).bind fun t460 => (some t460))
def impl_RowsOnce.f (k : Nat) (l0 : List (List (S83))) : Option ((List (List (S83)))) := impl_RowsOnce.l0 k ([] : List (List (S83))) l0 (l0.length : Int) 0
theorem impl_RowsOnce.mono_l : ∀ k, (∀ y0 y1 y2 y3, LeO (impl_RowsOnce.l0 k y0 y1 y2 y3) (impl_RowsOnce.l0 (k + 1) y0 y1 y2 y3))
 | 0 => fun _ _ _ _ r h => by simp [impl_RowsOnce.l0] at h
 | k + 1 => by
  have ih0 := impl_RowsOnce.mono_l k
  ·
   intro y0 y1 y2 y3
   unfold impl_RowsOnce.l0
   repeat' first
   | (with_reducible exact ih0 _ _ _ _)
   | (with_reducible exact impl_rowsHas.mono _ _ _)
   | (with_reducible exact LeO.refl _)
   | (with_reducible exact LeO.none _)
   | (with_reducible refine LeO.ite ?_ ?_)
   | (with_reducible refine LeO.bind ?_ (fun _ => ?_))
   | exact ih0 _ _ _ _
   | exact impl_rowsHas.mono _ _ _
   | exact LeO.none _
   | refine LeO.ite ?_ ?_
   | refine LeO.bind ?_ (fun _ => ?_)
theorem impl_RowsOnce.mono : ∀ a0 k, LeO (impl_RowsOnce.f k a0) (impl_RowsOnce.f (k + 1) a0) := by
 intro a0 k
 have ih0 := impl_RowsOnce.mono_l k
 unfold impl_RowsOnce.f
 repeat' first
   | (with_reducible exact ih0 _ _ _ _)
   | (with_reducible exact impl_rowsHas.mono _ _ _)
   | (with_reducible exact LeO.refl _)
   | (with_reducible exact LeO.none _)
   | (with_reducible refine LeO.ite ?_ ?_)
   | (with_reducible refine LeO.bind ?_ (fun _ => ?_))
   | exact ih0 _ _ _ _
   | exact impl_rowsHas.mono _ _ _
   | exact LeO.none _
   | refine LeO.ite ?_ ?_
   | refine LeO.bind ?_ (fun _ => ?_)
set_option maxHeartbeats 8000000 in
set_option maxRecDepth 100000 in
theorem impl_RowsOnce.calls (k : Nat) (P0_ : Nat → Prop) (A0 : Option Addr) (c0 : Nat) (l0 : List (List (S83))) (r : List (List (S83))) (w : World) (hs0 : Kd.V (Kd.slice 83 k83) 39 w w.heap.size (fun k_ => P0_ k_) (.slice A0 l0.length c0) l0) (h : impl_RowsOnce.f k l0 = some r) :
  Calls Try.prog 22 #[.slice A0 l0.length c0] w fun e w' => ∃ v0_ : Value, e = .returned (v0_) ∧ Kd.N (Kd.slice 83 k83) 39 w' w.heap.size (fun k_ => (P0_ k_ ∨ w.heap.size ≤ k_)) v0_ r ∧ Below w.heap.size w w' := by
 have HO0 := zM (show Kd.V (Kd.slice 83 k83) 39 w w.heap.size (fun k_ => (P0_ k_ ∨ w.heap.size ≤ k_)) (.slice A0 l0.length c0) l0 from Kd.V_mono hs0 (fun k_ hk => .inl hk))
 have HB := zM (Below.refl w.heap.size w)
 have H : (impl_RowsOnce.l0 k ([] : List (List (S83))) l0 (l0.length : Int) 0) = some r := h
 clear h
 have H' := zM H
 clear H
 go_enter Try.func22, Try.ntmps22
 go_wp2
 go_loopg [3, 8] k (fun kq v3 v8 w' => ∃ (x3_1 : List (List (S83))) (x8_1 : Int), v8 = .int .i64 x8_1 ∧ Aside0 (impl_RowsOnce.l0 kq x3_1 l0 (l0.length : Int) x8_1 = some r) ∧ Aside0 (kq ≤ k) ∧ Aside0 (Kd.N (Kd.slice 83 k83) 39 w' w.heap.size (fun k_ => (P0_ k_ ∨ w.heap.size ≤ k_)) v3 x3_1) ∧ Aside0 (Kd.V (Kd.slice 83 k83) 39 w' w.heap.size (fun k_ => (P0_ k_ ∨ w.heap.size ≤ k_) ∧ some k_ ≠ (v3 : Value).ownBlock) (.slice A0 l0.length c0) l0) ∧ Aside0 (Below w.heap.size w w'))
 case atStart => exact ⟨(([] : List (List (S83)))), (0), (by first | rfl | (simp; done) | (simp [*]; done)), H', ⟨Nat.le_refl _⟩, ⟨by first | exact Kd.S_nil _ _ _ _ _ | exact Kd.N_nil _ _ _ _ _ | exact Kd.V_nil _ _ _ _ _ | exact Kd.Q_nil _ _ _ _ _ | exact Kd.R_nil _ _ _ _ _⟩, ⟨by (with_reducible repeat (first | apply Kd.V_alloc | apply Kd.V_drewN | apply Kd.V_drew)); exact Kd.V_mono HO0.out (fun _ hk => ⟨hk, (by simp [Value.ownBlock])⟩)⟩, ⟨by repeat (first | (with_reducible first | exact HB.out | apply zU | apply zV | apply zW) | exact HB.out)⟩⟩
 case round =>
  clear H'
  obtain ⟨x3_1, x8_1, rfl, HA, HK1, HO_3, HO_6, HB⟩ := hrel
  cases gk with
  | zero => exact absurd HA.out (by simp [impl_RowsOnce.l0])
  | succ k1 =>
   have H := HA.out
   clear HA
   simp only [impl_RowsOnce.l0] at H
   by_cases c2 : x8_1 < (l0.length : Int)
   ·
    rw [if_pos c2] at H
    have c2b0 : decide (x8_1 < (l0.length : Int)) = true := decide_eq_true c2
    clear c2
    by_cases c3 : 0 ≤ x8_1
    ·
     rw [if_pos c3] at H
     have c3b0 : decide (0 ≤ x8_1) = true := decide_eq_true c3
     clear c3
     by_cases c4 : x8_1 < (l0.length : Int)
     ·
      rw [if_pos c4] at H
      have c4b0 : decide (x8_1 < (l0.length : Int)) = true := decide_eq_true c4
      clear c4
      replace H := Option.bind_eq_some_iff.mp H
      obtain ⟨t456, A50, H⟩ := H
      replace H : (if t456 = true then (impl_RowsOnce.l0 k1 x3_1 l0 (l0.length : Int) (wrap64 (x8_1 + 1))) else (if x3_1.length < 5864062014805 then (impl_RowsOnce.l0 k1 (x3_1 ++ [rd_L4 l0 x8_1]) l0 (l0.length : Int) (wrap64 (x8_1 + 1))) else (none))) = some r := H
      have A5 := zM A50
      clear A50
      by_cases c6 : t456 = true
      ·
       subst c6
       have H1 : (impl_RowsOnce.l0 k1 x3_1 l0 (l0.length : Int) (wrap64 (x8_1 + 1))) = some r := by rw [if_pos rfl] at H; exact H
       clear H
       have H := H1
       clear H1
       have H' := zM H
       clear H
       have p455 : 0 ≤ (x8_1 : Int) := zL (by assumption)
       have q455 : x8_1 < (l0.length : Int) := zL (by assumption)
       obtain ⟨ad455, A455_0, c455_0, e455, hx455_0, hl455_0, hi455_0⟩ := at_L4 (Kd.V_reads' HO_6.out).2.2 x8_1 p455 q455
       cases e455
       obtain ⟨ce455, hce455, hMe455, hcc455⟩ := Kd.V_get HO_6.out [] x8_1 p455 (by first | exact q455 | exact zL (by assumption) | (have e_ := (Kd.V_reads' HO_6.out).1; omega))
       obtain ⟨ua455_0, uc455_0, rfl, ul455_0, ge455_0⟩ := Kd.FK_slice_open hMe455
       have hv455_0 := hcc455 0 _ rfl
       rw [Nat.add_zero, show ((Kd.slice 83 k83)).sz = 1 from rfl, Nat.mul_one] at hv455_0
       replace hv455_0 := Option.some.inj (hv455_0.symm.trans hx455_0)
       injection hv455_0 with hva_ hvn_ hvc_
       rw [hva_] at ge455_0
       rw [hvc_] at ul455_0
       have HL455_0 := zM (show Kd.V k83 83 _ w.heap.size _ _ (rd_L4 l0 x8_1) from Kd.V_mk ul455_0 ge455_0)
       clear hva_ hvn_ hvc_ ge455_0 ul455_0
       clear hcc455 hce455
       have HR455_0 := zM hi455_0
       have HC455_0 := zM hl455_0
       clear hi455_0 hl455_0
       replace p455 := eq_true p455
       replace q455 := eq_true q455
       obtain ⟨Ao7, co7, eo7⟩ := Kd.N_slice HO_3.out
       subst eo7
       go_wp2_with (first | ((with_reducible refine gate_callee (f := 52) rfl ?_); refine goesL_ (some 14) rfl rfl Try.func52 (by kernel_rfl) rfl #[.slice Ao7 x3_1.length co7, .slice A455_0 (rd_L4 l0 x8_1).length c455_0] rfl (by (try simp only [List.map_toArray, List.map_cons, List.map_nil]); first | done | rfl | (simp only [List.length_drop, List.length_take]; rfl)) ?_; (with_reducible refine (impl_rowsHas.calls k1 _ _ x3_1 _ _ (rd_L4 l0 x8_1) true _ ?side1 ?side2 ?side3 ?side4 A5.out).mono ?_); (case side1 => repeat (first | exact (Kd.N_reads' HO_3.out).2.2 | (with_reducible refine zQ ?_ _) | (with_reducible refine zO ?_ _) | (with_reducible refine zP ?_))); (case side2 => exact (Kd.N_reads' HO_3.out).2.1); (case side3 => repeat (first | exact (by repeat (first | (with_reducible exact HR455_0.out) | (with_reducible refine zQ ?_ _) | (with_reducible refine zO ?_ _) | (with_reducible refine zP ?_) | exact HR455_0.out)) | (with_reducible refine zQ ?_ _) | (with_reducible refine zO ?_ _) | (with_reducible refine zP ?_))); (case side4 => exact HC455_0.out); rintro e w' ⟨rfl, ⟨nd, rfl⟩⟩; refine ⟨_, rfl, ?_⟩))
       go_roundg k1
       case measure => have := HK1.out; omega
       case rel => exact ⟨(x3_1), (wrap64 (x8_1 + 1)), (by first | rfl | (simp; done) | (simp [*]; done)), H', ⟨by have := HK1.out; omega⟩, ⟨by (with_reducible repeat (first | apply Kd.N_alloc | apply Kd.N_drewN | apply Kd.N_drew)); exact HO_3.out⟩, ⟨by (with_reducible repeat (first | apply Kd.V_alloc | apply Kd.V_drewN | apply Kd.V_drew)); exact HO_6.out⟩, ⟨by repeat (first | (with_reducible first | exact HB.out | apply zU | apply zV | apply zW) | exact HB.out)⟩⟩
      ·
       replace c6 := Bool.eq_false_iff.mpr c6
       subst c6
       have H1 : (if x3_1.length < 5864062014805 then (impl_RowsOnce.l0 k1 (x3_1 ++ [rd_L4 l0 x8_1]) l0 (l0.length : Int) (wrap64 (x8_1 + 1))) else (none)) = some r := by rw [if_neg (show ¬ (false = true) by decide)] at H; exact H
       clear H
       have H := H1
       clear H1
       by_cases c8 : x3_1.length < 5864062014805
       ·
        rw [if_pos c8] at H
        have LMc8 := zM c8
        clear c8
        obtain ⟨y457, hy457⟩ : ∃ y_ : List (List (S83)), y_ = (x3_1 ++ [rd_L4 l0 x8_1]) := ⟨_, rfl⟩
        replace H : (impl_RowsOnce.l0 k1 y457 l0 (l0.length : Int) (wrap64 (x8_1 + 1))) = some r := by first | (rw [hy457]; with_reducible exact H) | (have H2_ := (Option.bind_some _ _).symm.trans H; rw [hy457]; with_reducible exact H2_) | (have H2_ := (Option.bind_some _ _).symm.trans H; with_reducible exact H2_) | with_reducible exact H | (rw [hy457]; exact H) | exact H
        have Ny457 := zM hy457
        clear hy457
        have H' := zM H
        clear H
        have p455 : 0 ≤ (x8_1 : Int) := zL (by assumption)
        have q455 : x8_1 < (l0.length : Int) := zL (by assumption)
        obtain ⟨ad455, A455_0, c455_0, e455, hx455_0, hl455_0, hi455_0⟩ := at_L4 (Kd.V_reads' HO_6.out).2.2 x8_1 p455 q455
        cases e455
        obtain ⟨ce455, hce455, hMe455, hcc455⟩ := Kd.V_get HO_6.out [] x8_1 p455 (by first | exact q455 | exact zL (by assumption) | (have e_ := (Kd.V_reads' HO_6.out).1; omega))
        obtain ⟨ua455_0, uc455_0, rfl, ul455_0, ge455_0⟩ := Kd.FK_slice_open hMe455
        have hv455_0 := hcc455 0 _ rfl
        rw [Nat.add_zero, show ((Kd.slice 83 k83)).sz = 1 from rfl, Nat.mul_one] at hv455_0
        replace hv455_0 := Option.some.inj (hv455_0.symm.trans hx455_0)
        injection hv455_0 with hva_ hvn_ hvc_
        rw [hva_] at ge455_0
        rw [hvc_] at ul455_0
        have HL455_0 := zM (show Kd.V k83 83 _ w.heap.size _ _ (rd_L4 l0 x8_1) from Kd.V_mk ul455_0 ge455_0)
        clear hva_ hvn_ hvc_ ge455_0 ul455_0
        clear hcc455 hce455
        have HR455_0 := zM hi455_0
        have HC455_0 := zM hl455_0
        clear hi455_0 hl455_0
        replace p455 := eq_true p455
        replace q455 := eq_true q455
        obtain ⟨Ao9, co9, eo9⟩ := Kd.N_slice HO_3.out
        subst eo9
        go_wp2_with (first | ((with_reducible refine gate_callee (f := 52) rfl ?_); refine goesL_ (some 14) rfl rfl Try.func52 (by kernel_rfl) rfl #[.slice Ao9 x3_1.length co9, .slice A455_0 (rd_L4 l0 x8_1).length c455_0] rfl (by (try simp only [List.map_toArray, List.map_cons, List.map_nil]); first | done | rfl | (simp only [List.length_drop, List.length_take]; rfl)) ?_; (with_reducible refine (impl_rowsHas.calls k1 _ _ x3_1 _ _ (rd_L4 l0 x8_1) false _ ?side1 ?side2 ?side3 ?side4 A5.out).mono ?_); (case side1 => repeat (first | exact (Kd.N_reads' HO_3.out).2.2 | (with_reducible refine zQ ?_ _) | (with_reducible refine zO ?_ _) | (with_reducible refine zP ?_))); (case side2 => exact (Kd.N_reads' HO_3.out).2.1); (case side3 => repeat (first | exact (by repeat (first | (with_reducible exact HR455_0.out) | (with_reducible refine zQ ?_ _) | (with_reducible refine zO ?_ _) | (with_reducible refine zP ?_) | exact HR455_0.out)) | (with_reducible refine zQ ?_ _) | (with_reducible refine zO ?_ _) | (with_reducible refine zP ?_))); (case side4 => exact HC455_0.out); rintro e w' ⟨rfl, ⟨nd, rfl⟩⟩; refine ⟨_, rfl, ?_⟩) | ((with_reducible refine gate_builtin (b := .append) (xs := #[.tmp 16, .tmp 18]) rfl ?_); at_builtin; refine Kd.N_append (Kd.slice 83 k83) (w0 := w) w.heap.size rfl (.tmp 16) (.tmp 18) 38 39 (.slice none 0 0) 24 rfl Try.underlying38 info39 rfl (by decide) (by omega) (.slice Ao9 x3_1.length co9) x3_1 (rd_L4 l0 x8_1) [.slice A455_0 (rd_L4 l0 x8_1).length c455_0] (fun k_ => (P0_ k_ ∨ w.heap.size ≤ k_)) (fun k_ => ((fun k_ => (P0_ k_ ∨ w.heap.size ≤ k_))) k_ ∧ some k_ ≠ (.slice Ao9 x3_1.length co9 : Value).ownBlock) rfl rfl ?aP (fun _ hk => hk) ?aF ?aO ?aB ?aS ?aL ?_; (case aP => first | exact (Kd.FK_slice_mk (Kd.V_reads' (Kd.V_mono (ok' := (fun k_ => ((fun k_ => (P0_ k_ ∨ w.heap.size ≤ k_))) k_ ∧ some k_ ≠ (.slice Ao9 x3_1.length co9 : Value).ownBlock)) (HL455_0.out) (fun k_ hk => ⟨hk.1, hk.2⟩))).2.1 (Kd.V_F (Kd.V_mono (ok' := (fun k_ => ((fun k_ => (P0_ k_ ∨ w.heap.size ≤ k_))) k_ ∧ some k_ ≠ (.slice Ao9 x3_1.length co9 : Value).ownBlock)) (HL455_0.out) (fun k_ hk => ⟨hk.1, hk.2⟩)))) | exact Kd.FK_below (Kd.FK_slice_mk (Kd.V_reads' (Kd.V_mono (ok' := (fun k_ => ((fun k_ => (P0_ k_ ∨ w.heap.size ≤ k_))) k_ ∧ some k_ ≠ (.slice Ao9 x3_1.length co9 : Value).ownBlock)) (HL455_0.out) (fun k_ hk => ⟨hk.1, hk.2⟩))).2.1 (Kd.V_F (Kd.V_mono (ok' := (fun k_ => ((fun k_ => (P0_ k_ ∨ w.heap.size ≤ k_))) k_ ∧ some k_ ≠ (.slice Ao9 x3_1.length co9 : Value).ownBlock)) (HL455_0.out) (fun k_ hk => ⟨hk.1, hk.2⟩)))) (by repeat (first | exact Below.refl _ _ | apply zU | apply zV | apply zW))); (case aB => exact (by repeat (first | (with_reducible first | exact HB.out | apply zU | apply zV | apply zW) | exact HB.out))); (case aF => exact (fun k_ hk => (.inr (Nat.le_trans (zI (by repeat (first | (with_reducible first | exact HB.out | apply zU | apply zV | apply zW) | exact HB.out))) hk)))); (case aO => exact (by (with_reducible repeat (first | apply Kd.N_alloc | apply Kd.N_drewN | apply Kd.N_drew)); exact HO_3.out)); (case aS => exact (zI (by repeat (first | (with_reducible first | exact HB.out | apply zU | apply zV | apply zW) | exact HB.out)))); (case aL => have := LMc8.out; omega); intro v458 w10 ho hb hg hat; rw [← Ny457.out] at ho; have n0_ := zM (Kd.V_afterv (ok := (fun k_ => (P0_ k_ ∨ w.heap.size ≤ k_))) (by (with_reducible repeat (first | apply Kd.V_alloc | apply Kd.V_drewN | apply Kd.V_drew)); exact HO_6.out) hg hat); have n1_ := zM (Kd.V_afterv (ok := (fun k_ => (P0_ k_ ∨ w.heap.size ≤ k_))) (by (with_reducible repeat (first | apply Kd.V_alloc | apply Kd.V_drewN | apply Kd.V_drew)); exact HL455_0.out) hg hat); have n2_ := zM (hb); have n3_ := zM (ho); clear HO_6; clear HL455_0; clear HB; clear HO_3; have HO_6 := n0_; have HL455_0 := n1_; have HB := n2_; have HO459 := n3_; clear n0_ n1_ n2_ n3_; clear ho hb hg hat))
        go_roundg k1
        case measure => have := HK1.out; omega
        case rel => exact ⟨(y457), (wrap64 (x8_1 + 1)), (by first | rfl | (simp; done) | (simp [*]; done)), H', ⟨by have := HK1.out; omega⟩, ⟨by (with_reducible repeat (first | apply Kd.N_alloc | apply Kd.N_drewN | apply Kd.N_drew)); exact HO459.out⟩, ⟨by (with_reducible repeat (first | apply Kd.V_alloc | apply Kd.V_drewN | apply Kd.V_drew)); exact HO_6.out⟩, ⟨by repeat (first | (with_reducible first | exact HB.out | apply zU | apply zV | apply zW) | exact HB.out)⟩⟩
       ·
        rw [if_neg c8] at H
        exact absurd H (by simp)
     ·
      rw [if_neg c4] at H
      exact absurd H (by simp)
    ·
     rw [if_neg c3] at H
     exact absurd H (by simp)
   ·
    rw [if_neg c2] at H
    have c2b0 : decide (x8_1 < (l0.length : Int)) = false := decide_eq_false c2
    clear c2
    replace H := Option.bind_eq_some_iff.mp H
    obtain ⟨t460, A110, H⟩ := H
    replace H : (some t460) = some r := H
    have A11 := zM A110
    clear A110
    obtain rfl := Option.some.inj H
    obtain ⟨Ao12, co12, eo12⟩ := Kd.N_slice HO_3.out
    subst eo12
    go_wp2_with (first | ((with_reducible refine gate_callee (f := 53) rfl ?_); refine goesL_ (some 22) rfl rfl Try.func53 (by kernel_rfl) rfl #[.slice Ao12 x3_1.length co12] rfl (by (try simp only [List.map_toArray, List.map_cons, List.map_nil]); first | done | rfl | (simp only [List.length_drop, List.length_take]; rfl)) ?_; (with_reducible refine (impl_rowsCopy.calls _ _ x3_1 t460 _ ?side1 ?side2 A11.out).mono ?_); (case side1 => repeat (first | exact (Kd.N_reads' HO_3.out).2.2 | (with_reducible refine zQ ?_ _) | (with_reducible refine zO ?_ _) | (with_reducible refine zP ?_))); (case side2 => exact (Kd.N_reads' HO_3.out).2.1); rintro e w13 ⟨v461, rfl, ho0, hb⟩; refine ⟨_, rfl, ?_⟩; have n0_ := zM (Kd.N_elder' (by (with_reducible repeat (first | apply Kd.N_alloc | apply Kd.N_drewN | apply Kd.N_drew)); exact HO_3.out) (Kd.S_base ho0) hb); have n1_ := zM (Kd.V_elder' (by (with_reducible repeat (first | apply Kd.V_alloc | apply Kd.V_drewN | apply Kd.V_drew)); exact HO_6.out) (Kd.S_base ho0) hb); have n2_ := zM (Kd.N_lower (Kd.N_mono (ok' := fun k_ => (P0_ k_ ∨ w.heap.size ≤ k_) ∧ some k_ ≠ (.slice Ao12 x3_1.length co12 : Value).ownBlock) (Kd.S_N (Kd.S_bound ho0)) (fun k_ hk_ => ⟨(.inr (Nat.le_trans (zI (by repeat (first | (with_reducible first | exact HB.out | apply zU | apply zV | apply zW) | exact HB.out))) hk_.2.1)), (Kd.fresh' (Kd.N_lt (by (with_reducible repeat (first | apply Kd.N_alloc | apply Kd.N_drewN | apply Kd.N_drew)); exact HO_3.out)) k_ hk_.2.1)⟩)) (zI (by repeat (first | (with_reducible first | exact HB.out | apply zU | apply zV | apply zW) | exact HB.out)))); have n3_ := zM (zG (by repeat (first | (with_reducible first | exact HB.out | apply zU | apply zV | apply zW) | exact HB.out)) hb); clear HO_3; clear HO_6; clear HB; have HO_3 := n0_; have HO_6 := n1_; have HO462 := n2_; have HB := n3_; clear n0_ n1_ n2_ n3_; (try clear hb); (try clear hb2); (try clear hk); (try clear hi); (try clear ho0)))
    go_ret
    exact ⟨_, by first | rfl | (simp [errW_none, errW_some] <;> rfl) | (simp [*, errW_none, errW_some] <;> rfl), by (with_reducible repeat (first | apply Kd.N_alloc | apply Kd.N_drewN | apply Kd.N_drew)); exact Kd.N_mono HO462.out (fun _ hk => hk.1), by repeat (first | (with_reducible first | exact HB.out | apply zU | apply zV | apply zW) | exact HB.out)⟩
set_option maxHeartbeats 8000000 in
set_option maxRecDepth 100000 in
theorem impl_RowsOnce.own (k : Nat) (P0_ : Nat → Prop) (A0 : Option Addr) (c0 : Nat) (l0 : List (List (S83))) (r : List (List (S83))) (w : World) (hs0 : Kd.V (Kd.slice 83 k83) 39 w w.heap.size (fun k_ => P0_ k_) (.slice A0 l0.length c0) l0) (h : impl_RowsOnce.f k l0 = some r) :
  Calls Try.prog 22 #[.slice A0 l0.length c0] w fun e w' => ∃ v0_ : Value, e = .returned (v0_) ∧ Kd.S (Kd.slice 83 k83) 39 w' w.heap.size (fun _ => True) v0_ r ∧ Below w.heap.size w w' := by
 have HO0 := zM (show Kd.V (Kd.slice 83 k83) 39 w w.heap.size (fun k_ => (P0_ k_ ∨ w.heap.size ≤ k_)) (.slice A0 l0.length c0) l0 from Kd.V_mono hs0 (fun k_ hk => .inl hk))
 have HB := zM (Below.refl w.heap.size w)
 have H : (impl_RowsOnce.l0 k ([] : List (List (S83))) l0 (l0.length : Int) 0) = some r := h
 clear h
 have H' := zM H
 clear H
 go_enter Try.func22, Try.ntmps22
 go_wp2
 go_loopg [3, 8] k (fun kq v3 v8 w' => ∃ (x3_1 : List (List (S83))) (x8_1 : Int), v8 = .int .i64 x8_1 ∧ Aside0 (impl_RowsOnce.l0 kq x3_1 l0 (l0.length : Int) x8_1 = some r) ∧ Aside0 (kq ≤ k) ∧ Aside0 (Kd.N (Kd.slice 83 k83) 39 w' w.heap.size (fun k_ => (P0_ k_ ∨ w.heap.size ≤ k_)) v3 x3_1) ∧ Aside0 (Kd.V (Kd.slice 83 k83) 39 w' w.heap.size (fun k_ => (P0_ k_ ∨ w.heap.size ≤ k_) ∧ some k_ ≠ (v3 : Value).ownBlock) (.slice A0 l0.length c0) l0) ∧ Aside0 (Below w.heap.size w w'))
 case atStart => exact ⟨(([] : List (List (S83)))), (0), (by first | rfl | (simp; done) | (simp [*]; done)), H', ⟨Nat.le_refl _⟩, ⟨by first | exact Kd.S_nil _ _ _ _ _ | exact Kd.N_nil _ _ _ _ _ | exact Kd.V_nil _ _ _ _ _ | exact Kd.Q_nil _ _ _ _ _ | exact Kd.R_nil _ _ _ _ _⟩, ⟨by (with_reducible repeat (first | apply Kd.V_alloc | apply Kd.V_drewN | apply Kd.V_drew)); exact Kd.V_mono HO0.out (fun _ hk => ⟨hk, (by simp [Value.ownBlock])⟩)⟩, ⟨by repeat (first | (with_reducible first | exact HB.out | apply zU | apply zV | apply zW) | exact HB.out)⟩⟩
 case round =>
  clear H'
  obtain ⟨x3_1, x8_1, rfl, HA, HK1, HO_3, HO_6, HB⟩ := hrel
  cases gk with
  | zero => exact absurd HA.out (by simp [impl_RowsOnce.l0])
  | succ k1 =>
   have H := HA.out
   clear HA
   simp only [impl_RowsOnce.l0] at H
   by_cases c2 : x8_1 < (l0.length : Int)
   ·
    rw [if_pos c2] at H
    have c2b0 : decide (x8_1 < (l0.length : Int)) = true := decide_eq_true c2
    clear c2
    by_cases c3 : 0 ≤ x8_1
    ·
     rw [if_pos c3] at H
     have c3b0 : decide (0 ≤ x8_1) = true := decide_eq_true c3
     clear c3
     by_cases c4 : x8_1 < (l0.length : Int)
     ·
      rw [if_pos c4] at H
      have c4b0 : decide (x8_1 < (l0.length : Int)) = true := decide_eq_true c4
      clear c4
      replace H := Option.bind_eq_some_iff.mp H
      obtain ⟨t456, A50, H⟩ := H
      replace H : (if t456 = true then (impl_RowsOnce.l0 k1 x3_1 l0 (l0.length : Int) (wrap64 (x8_1 + 1))) else (if x3_1.length < 5864062014805 then (impl_RowsOnce.l0 k1 (x3_1 ++ [rd_L4 l0 x8_1]) l0 (l0.length : Int) (wrap64 (x8_1 + 1))) else (none))) = some r := H
      have A5 := zM A50
      clear A50
      by_cases c6 : t456 = true
      ·
       subst c6
       have H1 : (impl_RowsOnce.l0 k1 x3_1 l0 (l0.length : Int) (wrap64 (x8_1 + 1))) = some r := by rw [if_pos rfl] at H; exact H
       clear H
       have H := H1
       clear H1
       have H' := zM H
       clear H
       have p455 : 0 ≤ (x8_1 : Int) := zL (by assumption)
       have q455 : x8_1 < (l0.length : Int) := zL (by assumption)
       obtain ⟨ad455, A455_0, c455_0, e455, hx455_0, hl455_0, hi455_0⟩ := at_L4 (Kd.V_reads' HO_6.out).2.2 x8_1 p455 q455
       cases e455
       obtain ⟨ce455, hce455, hMe455, hcc455⟩ := Kd.V_get HO_6.out [] x8_1 p455 (by first | exact q455 | exact zL (by assumption) | (have e_ := (Kd.V_reads' HO_6.out).1; omega))
       obtain ⟨ua455_0, uc455_0, rfl, ul455_0, ge455_0⟩ := Kd.FK_slice_open hMe455
       have hv455_0 := hcc455 0 _ rfl
       rw [Nat.add_zero, show ((Kd.slice 83 k83)).sz = 1 from rfl, Nat.mul_one] at hv455_0
       replace hv455_0 := Option.some.inj (hv455_0.symm.trans hx455_0)
       injection hv455_0 with hva_ hvn_ hvc_
       rw [hva_] at ge455_0
       rw [hvc_] at ul455_0
       have HL455_0 := zM (show Kd.V k83 83 _ w.heap.size _ _ (rd_L4 l0 x8_1) from Kd.V_mk ul455_0 ge455_0)
       clear hva_ hvn_ hvc_ ge455_0 ul455_0
       clear hcc455 hce455
       have HR455_0 := zM hi455_0
       have HC455_0 := zM hl455_0
       clear hi455_0 hl455_0
       replace p455 := eq_true p455
       replace q455 := eq_true q455
       obtain ⟨Ao7, co7, eo7⟩ := Kd.N_slice HO_3.out
       subst eo7
       go_wp2_with (first | ((with_reducible refine gate_callee (f := 52) rfl ?_); refine goesL_ (some 14) rfl rfl Try.func52 (by kernel_rfl) rfl #[.slice Ao7 x3_1.length co7, .slice A455_0 (rd_L4 l0 x8_1).length c455_0] rfl (by (try simp only [List.map_toArray, List.map_cons, List.map_nil]); first | done | rfl | (simp only [List.length_drop, List.length_take]; rfl)) ?_; (with_reducible refine (impl_rowsHas.calls k1 _ _ x3_1 _ _ (rd_L4 l0 x8_1) true _ ?side1 ?side2 ?side3 ?side4 A5.out).mono ?_); (case side1 => repeat (first | exact (Kd.N_reads' HO_3.out).2.2 | (with_reducible refine zQ ?_ _) | (with_reducible refine zO ?_ _) | (with_reducible refine zP ?_))); (case side2 => exact (Kd.N_reads' HO_3.out).2.1); (case side3 => repeat (first | exact (by repeat (first | (with_reducible exact HR455_0.out) | (with_reducible refine zQ ?_ _) | (with_reducible refine zO ?_ _) | (with_reducible refine zP ?_) | exact HR455_0.out)) | (with_reducible refine zQ ?_ _) | (with_reducible refine zO ?_ _) | (with_reducible refine zP ?_))); (case side4 => exact HC455_0.out); rintro e w' ⟨rfl, ⟨nd, rfl⟩⟩; refine ⟨_, rfl, ?_⟩))
       go_roundg k1
       case measure => have := HK1.out; omega
       case rel => exact ⟨(x3_1), (wrap64 (x8_1 + 1)), (by first | rfl | (simp; done) | (simp [*]; done)), H', ⟨by have := HK1.out; omega⟩, ⟨by (with_reducible repeat (first | apply Kd.N_alloc | apply Kd.N_drewN | apply Kd.N_drew)); exact HO_3.out⟩, ⟨by (with_reducible repeat (first | apply Kd.V_alloc | apply Kd.V_drewN | apply Kd.V_drew)); exact HO_6.out⟩, ⟨by repeat (first | (with_reducible first | exact HB.out | apply zU | apply zV | apply zW) | exact HB.out)⟩⟩
      ·
       replace c6 := Bool.eq_false_iff.mpr c6
       subst c6
       have H1 : (if x3_1.length < 5864062014805 then (impl_RowsOnce.l0 k1 (x3_1 ++ [rd_L4 l0 x8_1]) l0 (l0.length : Int) (wrap64 (x8_1 + 1))) else (none)) = some r := by rw [if_neg (show ¬ (false = true) by decide)] at H; exact H
       clear H
       have H := H1
       clear H1
       by_cases c8 : x3_1.length < 5864062014805
       ·
        rw [if_pos c8] at H
        have LMc8 := zM c8
        clear c8
        obtain ⟨y457, hy457⟩ : ∃ y_ : List (List (S83)), y_ = (x3_1 ++ [rd_L4 l0 x8_1]) := ⟨_, rfl⟩
        replace H : (impl_RowsOnce.l0 k1 y457 l0 (l0.length : Int) (wrap64 (x8_1 + 1))) = some r := by first | (rw [hy457]; with_reducible exact H) | (have H2_ := (Option.bind_some _ _).symm.trans H; rw [hy457]; with_reducible exact H2_) | (have H2_ := (Option.bind_some _ _).symm.trans H; with_reducible exact H2_) | with_reducible exact H | (rw [hy457]; exact H) | exact H
        have Ny457 := zM hy457
        clear hy457
        have H' := zM H
        clear H
        have p455 : 0 ≤ (x8_1 : Int) := zL (by assumption)
        have q455 : x8_1 < (l0.length : Int) := zL (by assumption)
        obtain ⟨ad455, A455_0, c455_0, e455, hx455_0, hl455_0, hi455_0⟩ := at_L4 (Kd.V_reads' HO_6.out).2.2 x8_1 p455 q455
        cases e455
        obtain ⟨ce455, hce455, hMe455, hcc455⟩ := Kd.V_get HO_6.out [] x8_1 p455 (by first | exact q455 | exact zL (by assumption) | (have e_ := (Kd.V_reads' HO_6.out).1; omega))
        obtain ⟨ua455_0, uc455_0, rfl, ul455_0, ge455_0⟩ := Kd.FK_slice_open hMe455
        have hv455_0 := hcc455 0 _ rfl
        rw [Nat.add_zero, show ((Kd.slice 83 k83)).sz = 1 from rfl, Nat.mul_one] at hv455_0
        replace hv455_0 := Option.some.inj (hv455_0.symm.trans hx455_0)
        injection hv455_0 with hva_ hvn_ hvc_
        rw [hva_] at ge455_0
        rw [hvc_] at ul455_0
        have HL455_0 := zM (show Kd.V k83 83 _ w.heap.size _ _ (rd_L4 l0 x8_1) from Kd.V_mk ul455_0 ge455_0)
        clear hva_ hvn_ hvc_ ge455_0 ul455_0
        clear hcc455 hce455
        have HR455_0 := zM hi455_0
        have HC455_0 := zM hl455_0
        clear hi455_0 hl455_0
        replace p455 := eq_true p455
        replace q455 := eq_true q455
        obtain ⟨Ao9, co9, eo9⟩ := Kd.N_slice HO_3.out
        subst eo9
        go_wp2_with (first | ((with_reducible refine gate_callee (f := 52) rfl ?_); refine goesL_ (some 14) rfl rfl Try.func52 (by kernel_rfl) rfl #[.slice Ao9 x3_1.length co9, .slice A455_0 (rd_L4 l0 x8_1).length c455_0] rfl (by (try simp only [List.map_toArray, List.map_cons, List.map_nil]); first | done | rfl | (simp only [List.length_drop, List.length_take]; rfl)) ?_; (with_reducible refine (impl_rowsHas.calls k1 _ _ x3_1 _ _ (rd_L4 l0 x8_1) false _ ?side1 ?side2 ?side3 ?side4 A5.out).mono ?_); (case side1 => repeat (first | exact (Kd.N_reads' HO_3.out).2.2 | (with_reducible refine zQ ?_ _) | (with_reducible refine zO ?_ _) | (with_reducible refine zP ?_))); (case side2 => exact (Kd.N_reads' HO_3.out).2.1); (case side3 => repeat (first | exact (by repeat (first | (with_reducible exact HR455_0.out) | (with_reducible refine zQ ?_ _) | (with_reducible refine zO ?_ _) | (with_reducible refine zP ?_) | exact HR455_0.out)) | (with_reducible refine zQ ?_ _) | (with_reducible refine zO ?_ _) | (with_reducible refine zP ?_))); (case side4 => exact HC455_0.out); rintro e w' ⟨rfl, ⟨nd, rfl⟩⟩; refine ⟨_, rfl, ?_⟩) | ((with_reducible refine gate_builtin (b := .append) (xs := #[.tmp 16, .tmp 18]) rfl ?_); at_builtin; refine Kd.N_append (Kd.slice 83 k83) (w0 := w) w.heap.size rfl (.tmp 16) (.tmp 18) 38 39 (.slice none 0 0) 24 rfl Try.underlying38 info39 rfl (by decide) (by omega) (.slice Ao9 x3_1.length co9) x3_1 (rd_L4 l0 x8_1) [.slice A455_0 (rd_L4 l0 x8_1).length c455_0] (fun k_ => (P0_ k_ ∨ w.heap.size ≤ k_)) (fun k_ => ((fun k_ => (P0_ k_ ∨ w.heap.size ≤ k_))) k_ ∧ some k_ ≠ (.slice Ao9 x3_1.length co9 : Value).ownBlock) rfl rfl ?aP (fun _ hk => hk) ?aF ?aO ?aB ?aS ?aL ?_; (case aP => first | exact (Kd.FK_slice_mk (Kd.V_reads' (Kd.V_mono (ok' := (fun k_ => ((fun k_ => (P0_ k_ ∨ w.heap.size ≤ k_))) k_ ∧ some k_ ≠ (.slice Ao9 x3_1.length co9 : Value).ownBlock)) (HL455_0.out) (fun k_ hk => ⟨hk.1, hk.2⟩))).2.1 (Kd.V_F (Kd.V_mono (ok' := (fun k_ => ((fun k_ => (P0_ k_ ∨ w.heap.size ≤ k_))) k_ ∧ some k_ ≠ (.slice Ao9 x3_1.length co9 : Value).ownBlock)) (HL455_0.out) (fun k_ hk => ⟨hk.1, hk.2⟩)))) | exact Kd.FK_below (Kd.FK_slice_mk (Kd.V_reads' (Kd.V_mono (ok' := (fun k_ => ((fun k_ => (P0_ k_ ∨ w.heap.size ≤ k_))) k_ ∧ some k_ ≠ (.slice Ao9 x3_1.length co9 : Value).ownBlock)) (HL455_0.out) (fun k_ hk => ⟨hk.1, hk.2⟩))).2.1 (Kd.V_F (Kd.V_mono (ok' := (fun k_ => ((fun k_ => (P0_ k_ ∨ w.heap.size ≤ k_))) k_ ∧ some k_ ≠ (.slice Ao9 x3_1.length co9 : Value).ownBlock)) (HL455_0.out) (fun k_ hk => ⟨hk.1, hk.2⟩)))) (by repeat (first | exact Below.refl _ _ | apply zU | apply zV | apply zW))); (case aB => exact (by repeat (first | (with_reducible first | exact HB.out | apply zU | apply zV | apply zW) | exact HB.out))); (case aF => exact (fun k_ hk => (.inr (Nat.le_trans (zI (by repeat (first | (with_reducible first | exact HB.out | apply zU | apply zV | apply zW) | exact HB.out))) hk)))); (case aO => exact (by (with_reducible repeat (first | apply Kd.N_alloc | apply Kd.N_drewN | apply Kd.N_drew)); exact HO_3.out)); (case aS => exact (zI (by repeat (first | (with_reducible first | exact HB.out | apply zU | apply zV | apply zW) | exact HB.out)))); (case aL => have := LMc8.out; omega); intro v458 w10 ho hb hg hat; rw [← Ny457.out] at ho; have n0_ := zM (Kd.V_afterv (ok := (fun k_ => (P0_ k_ ∨ w.heap.size ≤ k_))) (by (with_reducible repeat (first | apply Kd.V_alloc | apply Kd.V_drewN | apply Kd.V_drew)); exact HO_6.out) hg hat); have n1_ := zM (Kd.V_afterv (ok := (fun k_ => (P0_ k_ ∨ w.heap.size ≤ k_))) (by (with_reducible repeat (first | apply Kd.V_alloc | apply Kd.V_drewN | apply Kd.V_drew)); exact HL455_0.out) hg hat); have n2_ := zM (hb); have n3_ := zM (ho); clear HO_6; clear HL455_0; clear HB; clear HO_3; have HO_6 := n0_; have HL455_0 := n1_; have HB := n2_; have HO459 := n3_; clear n0_ n1_ n2_ n3_; clear ho hb hg hat))
        go_roundg k1
        case measure => have := HK1.out; omega
        case rel => exact ⟨(y457), (wrap64 (x8_1 + 1)), (by first | rfl | (simp; done) | (simp [*]; done)), H', ⟨by have := HK1.out; omega⟩, ⟨by (with_reducible repeat (first | apply Kd.N_alloc | apply Kd.N_drewN | apply Kd.N_drew)); exact HO459.out⟩, ⟨by (with_reducible repeat (first | apply Kd.V_alloc | apply Kd.V_drewN | apply Kd.V_drew)); exact HO_6.out⟩, ⟨by repeat (first | (with_reducible first | exact HB.out | apply zU | apply zV | apply zW) | exact HB.out)⟩⟩
       ·
        rw [if_neg c8] at H
        exact absurd H (by simp)
     ·
      rw [if_neg c4] at H
      exact absurd H (by simp)
    ·
     rw [if_neg c3] at H
     exact absurd H (by simp)
   ·
    rw [if_neg c2] at H
    have c2b0 : decide (x8_1 < (l0.length : Int)) = false := decide_eq_false c2
    clear c2
    replace H := Option.bind_eq_some_iff.mp H
    obtain ⟨t460, A110, H⟩ := H
    replace H : (some t460) = some r := H
    have A11 := zM A110
    clear A110
    obtain rfl := Option.some.inj H
    obtain ⟨Ao12, co12, eo12⟩ := Kd.N_slice HO_3.out
    subst eo12
    go_wp2_with (first | ((with_reducible refine gate_callee (f := 53) rfl ?_); refine goesL_ (some 22) rfl rfl Try.func53 (by kernel_rfl) rfl #[.slice Ao12 x3_1.length co12] rfl (by (try simp only [List.map_toArray, List.map_cons, List.map_nil]); first | done | rfl | (simp only [List.length_drop, List.length_take]; rfl)) ?_; (with_reducible refine (impl_rowsCopy.calls _ _ x3_1 t460 _ ?side1 ?side2 A11.out).mono ?_); (case side1 => repeat (first | exact (Kd.N_reads' HO_3.out).2.2 | (with_reducible refine zQ ?_ _) | (with_reducible refine zO ?_ _) | (with_reducible refine zP ?_))); (case side2 => exact (Kd.N_reads' HO_3.out).2.1); rintro e w13 ⟨v461, rfl, ho0, hb⟩; refine ⟨_, rfl, ?_⟩; have HSOWN := zM (Kd.S_lower ho0 (zI (by repeat (first | (with_reducible first | exact HB.out | apply zU | apply zV | apply zW) | exact HB.out)))); have n0_ := zM (Kd.N_elder' (by (with_reducible repeat (first | apply Kd.N_alloc | apply Kd.N_drewN | apply Kd.N_drew)); exact HO_3.out) (Kd.S_base ho0) hb); have n1_ := zM (Kd.V_elder' (by (with_reducible repeat (first | apply Kd.V_alloc | apply Kd.V_drewN | apply Kd.V_drew)); exact HO_6.out) (Kd.S_base ho0) hb); have n2_ := zM (Kd.N_lower (Kd.N_mono (ok' := fun k_ => (P0_ k_ ∨ w.heap.size ≤ k_) ∧ some k_ ≠ (.slice Ao12 x3_1.length co12 : Value).ownBlock) (Kd.S_N (Kd.S_bound ho0)) (fun k_ hk_ => ⟨(.inr (Nat.le_trans (zI (by repeat (first | (with_reducible first | exact HB.out | apply zU | apply zV | apply zW) | exact HB.out))) hk_.2.1)), (Kd.fresh' (Kd.N_lt (by (with_reducible repeat (first | apply Kd.N_alloc | apply Kd.N_drewN | apply Kd.N_drew)); exact HO_3.out)) k_ hk_.2.1)⟩)) (zI (by repeat (first | (with_reducible first | exact HB.out | apply zU | apply zV | apply zW) | exact HB.out)))); have n3_ := zM (zG (by repeat (first | (with_reducible first | exact HB.out | apply zU | apply zV | apply zW) | exact HB.out)) hb); clear HO_3; clear HO_6; clear HB; have HO_3 := n0_; have HO_6 := n1_; have HO462 := n2_; have HB := n3_; clear n0_ n1_ n2_ n3_; (try clear hb); (try clear hb2); (try clear hk); (try clear hi); (try clear ho0)))
    go_ret
    exact ⟨_, by first | rfl | (simp [errW_none, errW_some] <;> rfl) | (simp [*, errW_none, errW_some] <;> rfl), HSOWN.out, by repeat (first | (with_reducible first | exact HB.out | apply zU | apply zV | apply zW) | exact HB.out)⟩
end

end Go.Proofs.Ytalhkihppcjanaa.X
