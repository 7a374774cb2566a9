/- Plain functions for the Go functions of this seat, and proofs that each call answers as its plain function does; made by this session's program over the kit's printer. -/
import Derived.Test.YtikjhhjmdknhiaaX0
import Derived.Test.YtikjhhjmdknhiaaZFnExactRowsLess2
namespace Go.Proofs.Ytikjhhjmdknhiaa.X
open Go.RowKit Go.Proofs.YtikjhhjmdknhiaaV.PrintWords Go.Proofs.YtikjhhjmdknhiaaV.PrintLast Go.Proofs.YtikjhhjmdknhiaaV.PrintMore
attribute [local go_sem] max2_int min2_int max_two min_two max_three min_three max_four min_four   -- for this text's walks alone
set_option linter.unusedVariables false
set_option linter.unusedSimpArgs false

section
/-! ### impl_RowsOnce: function 27 -/
def impl_RowsOnce.l0 : Nat → List (List (S77)) → List (List (S77)) → Int → Int → Option ((List (List (S77))))
  | 0, _, _, _, _ => none
  | k + 1, x3, x6, x7, x8 => if x8 < x7 then (if 0 ≤ x8 then (if x8 < (x6.length : Int) then ((impl_rowsHas.f k x3 (rd_L5 x6 x8)).bind fun t413 => (if t413 = true then (impl_RowsOnce.l0 k x3 x6 x7 (wrap64 (x8 + 1))) else (if x3.length < 5864062014805 then (impl_RowsOnce.l0 k (x3 ++ [rd_L5 x6 x8]) x6 x7 (wrap64 (x8 + 1))) else (none)))) else (none)) else (none)) else ((impl_rowsCopy.f x3).bind fun t417 => (some t417))
def impl_RowsOnce.f (k : Nat) (l0 : List (List (S77))) : Option ((List (List (S77)))) := impl_RowsOnce.l0 k ([] : List (List (S77))) l0 (l0.length : Int) 0
theorem impl_RowsOnce.mono_l : ∀ k, (∀ y0 y1 y2 y3, LeO (impl_RowsOnce.l0 k y0 y1 y2 y3) (impl_RowsOnce.l0 (k + 1) y0 y1 y2 y3))
  | 0 => fun _ _ _ _ r h => by simp [impl_RowsOnce.l0] at h
  | k + 1 => by
    have ih0 := impl_RowsOnce.mono_l k
    · intro y0 y1 y2 y3
      unfold impl_RowsOnce.l0
      repeat' first
      | (with_reducible exact ih0 _ _ _ _)
      | (with_reducible exact impl_rowsHas.mono _ _ _)
      | (with_reducible exact LeO.refl _)
      | (with_reducible exact LeO.none _)
      | (with_reducible refine LeO.ite ?_ ?_)
      | (with_reducible refine LeO.bind ?_ (fun _ => ?_))
      | exact ih0 _ _ _ _
      | exact impl_rowsHas.mono _ _ _
      | exact LeO.none _
      | refine LeO.ite ?_ ?_
      | refine LeO.bind ?_ (fun _ => ?_)
theorem impl_RowsOnce.mono : ∀ a0 k, LeO (impl_RowsOnce.f k a0) (impl_RowsOnce.f (k + 1) a0) := by
  intro a0 k
  have ih0 := impl_RowsOnce.mono_l k
  unfold impl_RowsOnce.f
  repeat' first
      | (with_reducible exact ih0 _ _ _ _)
      | (with_reducible exact impl_rowsHas.mono _ _ _)
      | (with_reducible exact LeO.refl _)
      | (with_reducible exact LeO.none _)
      | (with_reducible refine LeO.ite ?_ ?_)
      | (with_reducible refine LeO.bind ?_ (fun _ => ?_))
      | exact ih0 _ _ _ _
      | exact impl_rowsHas.mono _ _ _
      | exact LeO.none _
      | refine LeO.ite ?_ ?_
      | refine LeO.bind ?_ (fun _ => ?_)
set_option maxHeartbeats 8000000 in
set_option maxRecDepth 100000 in
theorem impl_RowsOnce.calls (k : Nat) (P0_ : Nat → Prop) (A0 : Option Addr) (c0 : Nat) (l0 : List (List (S77))) (r : List (List (S77))) (w : World) (hs0 : Kd.V (Kd.slice 77 k77) 33 w w.heap.size (fun k_ => P0_ k_) (.slice A0 l0.length c0) l0) (h : impl_RowsOnce.f k l0 = some r) :
    Calls Try.prog 27 #[.slice A0 l0.length c0] w fun e w' => ∃ v0_ : Value, e = .returned (v0_) ∧ Kd.N (Kd.slice 77 k77) 33 w' w.heap.size (fun k_ => (P0_ k_ ∨ w.heap.size ≤ k_)) v0_ r ∧ Below w.heap.size w w' := by
  have HO0 := Aside0.mk (show Kd.V (Kd.slice 77 k77) 33 w w.heap.size (fun k_ => (P0_ k_ ∨ w.heap.size ≤ k_)) (.slice A0 l0.length c0) l0 from Kd.V_mono hs0 (fun k_ hk => .inl hk))
  have HB := Aside0.mk (Below.refl w.heap.size w)
  have H : (impl_RowsOnce.l0 k ([] : List (List (S77))) l0 (l0.length : Int) 0) = some r := h
  clear h
  have H' := Aside0.mk H
  clear H
  go_enter Try.func27, Try.ntmps27
  go_wp2
  go_loopg [3, 8] k (fun kq v3 v8 w' => ∃ (x3_1 : List (List (S77))) (x8_1 : Int), v8 = .int .i64 x8_1 ∧ Aside0 (impl_RowsOnce.l0 kq x3_1 l0 (l0.length : Int) x8_1 = some r) ∧ Aside0 (kq ≤ k) ∧ Aside0 (Kd.N (Kd.slice 77 k77) 33 w' w.heap.size (fun k_ => (P0_ k_ ∨ w.heap.size ≤ k_)) v3 x3_1) ∧ Aside0 (Kd.V (Kd.slice 77 k77) 33 w' w.heap.size (fun k_ => (P0_ k_ ∨ w.heap.size ≤ k_) ∧ some k_ ≠ (v3 : Value).ownBlock) (.slice A0 l0.length c0) l0) ∧ Aside0 (Below w.heap.size w w'))
  case atStart => exact ⟨(([] : List (List (S77)))), (0), (by first | rfl | (simp; done) | (simp [*]; done)), H', ⟨Nat.le_refl _⟩, ⟨by first | exact Kd.S_nil _ _ _ _ _ | exact Kd.N_nil _ _ _ _ _ | exact Kd.V_nil _ _ _ _ _ | exact Kd.Q_nil _ _ _ _ _ | exact Kd.R_nil _ _ _ _ _⟩, ⟨by (with_reducible repeat (first | apply Kd.V_alloc | apply Kd.V_drewN | apply Kd.V_drew)); exact Kd.V_mono HO0.out (fun _ hk => ⟨hk, (by simp [Value.ownBlock])⟩)⟩, ⟨by repeat (first | (with_reducible first | exact HB.out | apply below_alloc | apply pw_below_drewN | apply below_drew1) | exact HB.out)⟩⟩
  case round =>
    clear H'
    obtain ⟨x3_1, x8_1, rfl, HA, HK1, HO_3, HO_6, HB⟩ := hrel
    cases gk with
    | zero => exact absurd HA.out (by simp [impl_RowsOnce.l0])
    | succ k1 =>
      have H := HA.out
      clear HA
      simp only [impl_RowsOnce.l0] at H
      by_cases c2 : x8_1 < (l0.length : Int)
      · rw [if_pos c2] at H
        have c2b0 : decide (x8_1 < (l0.length : Int)) = true := decide_eq_true c2
        clear c2
        by_cases c3 : 0 ≤ x8_1
        · rw [if_pos c3] at H
          have c3b0 : decide (0 ≤ x8_1) = true := decide_eq_true c3
          clear c3
          by_cases c4 : x8_1 < (l0.length : Int)
          · rw [if_pos c4] at H
            have c4b0 : decide (x8_1 < (l0.length : Int)) = true := decide_eq_true c4
            clear c4
            replace H := Option.bind_eq_some_iff.mp H
            obtain ⟨t413, A50, H⟩ := H
            replace H : (if t413 = true then (impl_RowsOnce.l0 k1 x3_1 l0 (l0.length : Int) (wrap64 (x8_1 + 1))) else (if x3_1.length < 5864062014805 then (impl_RowsOnce.l0 k1 (x3_1 ++ [rd_L5 l0 x8_1]) l0 (l0.length : Int) (wrap64 (x8_1 + 1))) else (none))) = some r := H
            have A5 := Aside0.mk A50
            clear A50
            by_cases c6 : t413 = true
            · subst c6
              have H1 : (impl_RowsOnce.l0 k1 x3_1 l0 (l0.length : Int) (wrap64 (x8_1 + 1))) = some r := by rw [if_pos rfl] at H; exact H
              clear H
              have H := H1
              clear H1
              have H' := Aside0.mk H
              clear H
              have p412 : 0 ≤ (x8_1 : Int) := of_decide_eq_true (by first | (with_reducible assumption) | assumption)
              have q412 : x8_1 < (l0.length : Int) := of_decide_eq_true (by first | (with_reducible assumption) | assumption)
              obtain ⟨ad412, A412_0, c412_0, e412, hx412_0, hl412_0, hi412_0⟩ := at_L5 (Kd.V_reads' HO_6.out).2.2 x8_1 p412 q412
              cases e412
              obtain ⟨ce412, hce412, hMe412, hcc412⟩ := Kd.V_get HO_6.out [] x8_1 p412 (by first | exact q412 | exact of_decide_eq_true (by first | (with_reducible assumption) | assumption) | (have e_ := (Kd.V_reads' HO_6.out).1; omega))
              obtain ⟨ua412_0, uc412_0, rfl, ul412_0, ge412_0⟩ := Kd.FK_slice_open hMe412
              have hv412_0 := hcc412 0 _ rfl
              rw [Nat.add_zero, show ((Kd.slice 77 k77)).sz = 1 from rfl, Nat.mul_one] at hv412_0
              replace hv412_0 := Option.some.inj (hv412_0.symm.trans hx412_0)
              injection hv412_0 with hva_ hvn_ hvc_
              rw [hva_] at ge412_0
              rw [hvc_] at ul412_0
              have HL412_0 := Aside0.mk (show Kd.V k77 77 _ w.heap.size _ _ (rd_L5 l0 x8_1) from Kd.V_mk ul412_0 ge412_0)
              clear hva_ hvn_ hvc_ ge412_0 ul412_0
              clear hcc412 hce412
              have HR412_0 := Aside0.mk hi412_0
              have HC412_0 := Aside0.mk hl412_0
              clear hi412_0 hl412_0
              replace p412 := eq_true p412
              replace q412 := eq_true q412
              obtain ⟨Ao7, co7, eo7⟩ := Kd.N_slice HO_3.out
              subst eo7
              go_wp2_with (first | ((with_reducible refine gate_callee (f := 64) rfl ?_); refine goesL_ (some 14) rfl rfl Try.func64 (by kernel_rfl) rfl #[.slice Ao7 x3_1.length co7, .slice A412_0 (rd_L5 l0 x8_1).length c412_0] rfl (by (try simp only [List.map_toArray, List.map_cons, List.map_nil]); first | done | rfl | (simp only [List.length_drop, List.length_take]; rfl)) ?_; (with_reducible refine (impl_rowsHas.calls k1 _ _ x3_1 _ _ (rd_L5 l0 x8_1) true _ ?side1 ?side2 ?side3 ?side4 A5.out).mono ?_); (case side1 => repeat (first | exact (Kd.N_reads' HO_3.out).2.2 | (with_reducible refine Kd.C_alloc ?_ _) | (with_reducible refine Kd.C_drewN ?_ _) | (with_reducible refine Kd.C_drew ?_))); (case side2 => exact (Kd.N_reads' HO_3.out).2.1); (case side3 => repeat (first | exact (by repeat (first | (with_reducible exact HR412_0.out) | (with_reducible refine Kd.C_alloc ?_ _) | (with_reducible refine Kd.C_drewN ?_ _) | (with_reducible refine Kd.C_drew ?_) | exact HR412_0.out)) | (with_reducible refine Kd.C_alloc ?_ _) | (with_reducible refine Kd.C_drewN ?_ _) | (with_reducible refine Kd.C_drew ?_))); (case side4 => exact HC412_0.out); rintro e w' ⟨rfl, ⟨nd, rfl⟩⟩; refine ⟨_, rfl, ?_⟩))
              go_roundg k1
              case measure => have := HK1.out; omega
              case rel => exact ⟨(x3_1), (wrap64 (x8_1 + 1)), (by first | rfl | (simp; done) | (simp [*]; done)), H', ⟨by have := HK1.out; omega⟩, ⟨by (with_reducible repeat (first | apply Kd.N_alloc | apply Kd.N_drewN | apply Kd.N_drew)); exact HO_3.out⟩, ⟨by (with_reducible repeat (first | apply Kd.V_alloc | apply Kd.V_drewN | apply Kd.V_drew)); exact HO_6.out⟩, ⟨by repeat (first | (with_reducible first | exact HB.out | apply below_alloc | apply pw_below_drewN | apply below_drew1) | exact HB.out)⟩⟩
            · replace c6 := Bool.eq_false_iff.mpr c6
              subst c6
              have H1 : (if x3_1.length < 5864062014805 then (impl_RowsOnce.l0 k1 (x3_1 ++ [rd_L5 l0 x8_1]) l0 (l0.length : Int) (wrap64 (x8_1 + 1))) else (none)) = some r := by rw [if_neg (show ¬ (false = true) by decide)] at H; exact H
              clear H
              have H := H1
              clear H1
              by_cases c8 : x3_1.length < 5864062014805
              · rw [if_pos c8] at H
                have LMc8 := Aside0.mk c8
                clear c8
                obtain ⟨y414, hy414⟩ : ∃ y_ : List (List (S77)), y_ = (x3_1 ++ [rd_L5 l0 x8_1]) := ⟨_, rfl⟩
                replace H : (impl_RowsOnce.l0 k1 y414 l0 (l0.length : Int) (wrap64 (x8_1 + 1))) = some r := by first | (rw [hy414]; with_reducible exact H) | (have H2_ := (Option.bind_some _ _).symm.trans H; rw [hy414]; with_reducible exact H2_) | (have H2_ := (Option.bind_some _ _).symm.trans H; with_reducible exact H2_) | with_reducible exact H | (rw [hy414]; exact H) | exact H
                have Ny414 := Aside0.mk hy414
                clear hy414
                have H' := Aside0.mk H
                clear H
                have p412 : 0 ≤ (x8_1 : Int) := of_decide_eq_true (by first | (with_reducible assumption) | assumption)
                have q412 : x8_1 < (l0.length : Int) := of_decide_eq_true (by first | (with_reducible assumption) | assumption)
                obtain ⟨ad412, A412_0, c412_0, e412, hx412_0, hl412_0, hi412_0⟩ := at_L5 (Kd.V_reads' HO_6.out).2.2 x8_1 p412 q412
                cases e412
                obtain ⟨ce412, hce412, hMe412, hcc412⟩ := Kd.V_get HO_6.out [] x8_1 p412 (by first | exact q412 | exact of_decide_eq_true (by first | (with_reducible assumption) | assumption) | (have e_ := (Kd.V_reads' HO_6.out).1; omega))
                obtain ⟨ua412_0, uc412_0, rfl, ul412_0, ge412_0⟩ := Kd.FK_slice_open hMe412
                have hv412_0 := hcc412 0 _ rfl
                rw [Nat.add_zero, show ((Kd.slice 77 k77)).sz = 1 from rfl, Nat.mul_one] at hv412_0
                replace hv412_0 := Option.some.inj (hv412_0.symm.trans hx412_0)
                injection hv412_0 with hva_ hvn_ hvc_
                rw [hva_] at ge412_0
                rw [hvc_] at ul412_0
                have HL412_0 := Aside0.mk (show Kd.V k77 77 _ w.heap.size _ _ (rd_L5 l0 x8_1) from Kd.V_mk ul412_0 ge412_0)
                clear hva_ hvn_ hvc_ ge412_0 ul412_0
                clear hcc412 hce412
                have HR412_0 := Aside0.mk hi412_0
                have HC412_0 := Aside0.mk hl412_0
                clear hi412_0 hl412_0
                replace p412 := eq_true p412
                replace q412 := eq_true q412
                obtain ⟨Ao9, co9, eo9⟩ := Kd.N_slice HO_3.out
                subst eo9
                go_wp2_with (first | ((with_reducible refine gate_callee (f := 64) rfl ?_); refine goesL_ (some 14) rfl rfl Try.func64 (by kernel_rfl) rfl #[.slice Ao9 x3_1.length co9, .slice A412_0 (rd_L5 l0 x8_1).length c412_0] rfl (by (try simp only [List.map_toArray, List.map_cons, List.map_nil]); first | done | rfl | (simp only [List.length_drop, List.length_take]; rfl)) ?_; (with_reducible refine (impl_rowsHas.calls k1 _ _ x3_1 _ _ (rd_L5 l0 x8_1) false _ ?side1 ?side2 ?side3 ?side4 A5.out).mono ?_); (case side1 => repeat (first | exact (Kd.N_reads' HO_3.out).2.2 | (with_reducible refine Kd.C_alloc ?_ _) | (with_reducible refine Kd.C_drewN ?_ _) | (with_reducible refine Kd.C_drew ?_))); (case side2 => exact (Kd.N_reads' HO_3.out).2.1); (case side3 => repeat (first | exact (by repeat (first | (with_reducible exact HR412_0.out) | (with_reducible refine Kd.C_alloc ?_ _) | (with_reducible refine Kd.C_drewN ?_ _) | (with_reducible refine Kd.C_drew ?_) | exact HR412_0.out)) | (with_reducible refine Kd.C_alloc ?_ _) | (with_reducible refine Kd.C_drewN ?_ _) | (with_reducible refine Kd.C_drew ?_))); (case side4 => exact HC412_0.out); rintro e w' ⟨rfl, ⟨nd, rfl⟩⟩; refine ⟨_, rfl, ?_⟩) | ((with_reducible refine gate_builtin (b := .append) (xs := #[.tmp 16, .tmp 18]) rfl ?_); at_builtin; refine Kd.N_append (Kd.slice 77 k77) (w0 := w) w.heap.size rfl (.tmp 16) (.tmp 18) 24 33 (.slice none 0 0) 24 rfl Try.underlying24 info33 rfl (by decide) (by omega) (.slice Ao9 x3_1.length co9) x3_1 (rd_L5 l0 x8_1) [.slice A412_0 (rd_L5 l0 x8_1).length c412_0] (fun k_ => (P0_ k_ ∨ w.heap.size ≤ k_)) (fun k_ => ((fun k_ => (P0_ k_ ∨ w.heap.size ≤ k_))) k_ ∧ some k_ ≠ (.slice Ao9 x3_1.length co9 : Value).ownBlock) rfl rfl ?aP (fun _ hk => hk) ?aF ?aO ?aB ?aS ?aL ?_; (case aP => first | exact (Kd.FK_slice_mk (Kd.V_reads' (Kd.V_mono (ok' := (fun k_ => ((fun k_ => (P0_ k_ ∨ w.heap.size ≤ k_))) k_ ∧ some k_ ≠ (.slice Ao9 x3_1.length co9 : Value).ownBlock)) (HL412_0.out) (fun k_ hk => ⟨hk.1, hk.2⟩))).2.1 (Kd.V_F (Kd.V_mono (ok' := (fun k_ => ((fun k_ => (P0_ k_ ∨ w.heap.size ≤ k_))) k_ ∧ some k_ ≠ (.slice Ao9 x3_1.length co9 : Value).ownBlock)) (HL412_0.out) (fun k_ hk => ⟨hk.1, hk.2⟩)))) | exact Kd.FK_below (Kd.FK_slice_mk (Kd.V_reads' (Kd.V_mono (ok' := (fun k_ => ((fun k_ => (P0_ k_ ∨ w.heap.size ≤ k_))) k_ ∧ some k_ ≠ (.slice Ao9 x3_1.length co9 : Value).ownBlock)) (HL412_0.out) (fun k_ hk => ⟨hk.1, hk.2⟩))).2.1 (Kd.V_F (Kd.V_mono (ok' := (fun k_ => ((fun k_ => (P0_ k_ ∨ w.heap.size ≤ k_))) k_ ∧ some k_ ≠ (.slice Ao9 x3_1.length co9 : Value).ownBlock)) (HL412_0.out) (fun k_ hk => ⟨hk.1, hk.2⟩)))) (by repeat (first | exact Below.refl _ _ | apply below_alloc | apply pw_below_drewN | apply below_drew1))); (case aB => exact (by repeat (first | (with_reducible first | exact HB.out | apply below_alloc | apply pw_below_drewN | apply below_drew1) | exact HB.out))); (case aF => exact (fun k_ hk => (.inr (Nat.le_trans (below_size (by repeat (first | (with_reducible first | exact HB.out | apply below_alloc | apply pw_below_drewN | apply below_drew1) | exact HB.out))) hk)))); (case aO => exact (by (with_reducible repeat (first | apply Kd.N_alloc | apply Kd.N_drewN | apply Kd.N_drew)); exact HO_3.out)); (case aS => exact (below_size (by repeat (first | (with_reducible first | exact HB.out | apply below_alloc | apply pw_below_drewN | apply below_drew1) | exact HB.out)))); (case aL => have := LMc8.out; omega); intro v415 w10 ho hb hg hat; rw [← Ny414.out] at ho; have n0_ := Aside0.mk (Kd.V_afterv (ok := (fun k_ => (P0_ k_ ∨ w.heap.size ≤ k_))) (by (with_reducible repeat (first | apply Kd.V_alloc | apply Kd.V_drewN | apply Kd.V_drew)); exact HO_6.out) hg hat); have n1_ := Aside0.mk (Kd.V_afterv (ok := (fun k_ => (P0_ k_ ∨ w.heap.size ≤ k_))) (by (with_reducible repeat (first | apply Kd.V_alloc | apply Kd.V_drewN | apply Kd.V_drew)); exact HL412_0.out) hg hat); have n2_ := Aside0.mk (hb); have n3_ := Aside0.mk (ho); clear HO_6; clear HL412_0; clear HB; clear HO_3; have HO_6 := n0_; have HL412_0 := n1_; have HB := n2_; have HO416 := n3_; clear n0_ n1_ n2_ n3_; clear ho hb hg hat))
                go_roundg k1
                case measure => have := HK1.out; omega
                case rel => exact ⟨(y414), (wrap64 (x8_1 + 1)), (by first | rfl | (simp; done) | (simp [*]; done)), H', ⟨by have := HK1.out; omega⟩, ⟨by (with_reducible repeat (first | apply Kd.N_alloc | apply Kd.N_drewN | apply Kd.N_drew)); exact HO416.out⟩, ⟨by (with_reducible repeat (first | apply Kd.V_alloc | apply Kd.V_drewN | apply Kd.V_drew)); exact HO_6.out⟩, ⟨by repeat (first | (with_reducible first | exact HB.out | apply below_alloc | apply pw_below_drewN | apply below_drew1) | exact HB.out)⟩⟩
              · rw [if_neg c8] at H
                exact absurd H (by simp)
          · rw [if_neg c4] at H
            exact absurd H (by simp)
        · rw [if_neg c3] at H
          exact absurd H (by simp)
      · rw [if_neg c2] at H
        have c2b0 : decide (x8_1 < (l0.length : Int)) = false := decide_eq_false c2
        clear c2
        replace H := Option.bind_eq_some_iff.mp H
        obtain ⟨t417, A110, H⟩ := H
        replace H : (some t417) = some r := H
        have A11 := Aside0.mk A110
        clear A110
        obtain rfl := Option.some.inj H
        obtain ⟨Ao12, co12, eo12⟩ := Kd.N_slice HO_3.out
        subst eo12
        go_wp2_with (first | ((with_reducible refine gate_callee (f := 53) rfl ?_); refine goesL_ (some 22) rfl rfl Try.func53 (by kernel_rfl) rfl #[.slice Ao12 x3_1.length co12] rfl (by (try simp only [List.map_toArray, List.map_cons, List.map_nil]); first | done | rfl | (simp only [List.length_drop, List.length_take]; rfl)) ?_; (with_reducible refine (impl_rowsCopy.calls _ _ x3_1 t417 _ ?side1 ?side2 A11.out).mono ?_); (case side1 => repeat (first | exact (Kd.N_reads' HO_3.out).2.2 | (with_reducible refine Kd.C_alloc ?_ _) | (with_reducible refine Kd.C_drewN ?_ _) | (with_reducible refine Kd.C_drew ?_))); (case side2 => exact (Kd.N_reads' HO_3.out).2.1); rintro e w13 ⟨v418, rfl, ho0, hb⟩; refine ⟨_, rfl, ?_⟩; have n0_ := Aside0.mk (Kd.N_elder' (by (with_reducible repeat (first | apply Kd.N_alloc | apply Kd.N_drewN | apply Kd.N_drew)); exact HO_3.out) (Kd.S_base ho0) hb); have n1_ := Aside0.mk (Kd.V_elder' (by (with_reducible repeat (first | apply Kd.V_alloc | apply Kd.V_drewN | apply Kd.V_drew)); exact HO_6.out) (Kd.S_base ho0) hb); have n2_ := Aside0.mk (Kd.N_lower (Kd.N_mono (ok' := fun k_ => (P0_ k_ ∨ w.heap.size ≤ k_) ∧ some k_ ≠ (.slice Ao12 x3_1.length co12 : Value).ownBlock) (Kd.S_N (Kd.S_bound ho0)) (fun k_ hk_ => ⟨(.inr (Nat.le_trans (below_size (by repeat (first | (with_reducible first | exact HB.out | apply below_alloc | apply pw_below_drewN | apply below_drew1) | exact HB.out))) hk_.2.1)), (Kd.fresh' (Kd.N_lt (by (with_reducible repeat (first | apply Kd.N_alloc | apply Kd.N_drewN | apply Kd.N_drew)); exact HO_3.out)) k_ hk_.2.1)⟩)) (below_size (by repeat (first | (with_reducible first | exact HB.out | apply below_alloc | apply pw_below_drewN | apply below_drew1) | exact HB.out)))); have n3_ := Aside0.mk (below_step (by repeat (first | (with_reducible first | exact HB.out | apply below_alloc | apply pw_below_drewN | apply below_drew1) | exact HB.out)) hb); clear HO_3; clear HO_6; clear HB; have HO_3 := n0_; have HO_6 := n1_; have HO419 := n2_; have HB := n3_; clear n0_ n1_ n2_ n3_; (try clear hb); (try clear hb2); (try clear hk); (try clear hi); (try clear ho0)))
        go_ret
        exact ⟨_, by first | rfl | (simp [errW_none, errW_some] <;> rfl) | (simp [*, errW_none, errW_some] <;> rfl), by (with_reducible repeat (first | apply Kd.N_alloc | apply Kd.N_drewN | apply Kd.N_drew)); exact Kd.N_mono HO419.out (fun _ hk => hk.1), by repeat (first | (with_reducible first | exact HB.out | apply below_alloc | apply pw_below_drewN | apply below_drew1) | exact HB.out)⟩
set_option maxHeartbeats 8000000 in
set_option maxRecDepth 100000 in
theorem impl_RowsOnce.own (k : Nat) (P0_ : Nat → Prop) (A0 : Option Addr) (c0 : Nat) (l0 : List (List (S77))) (r : List (List (S77))) (w : World) (hs0 : Kd.V (Kd.slice 77 k77) 33 w w.heap.size (fun k_ => P0_ k_) (.slice A0 l0.length c0) l0) (h : impl_RowsOnce.f k l0 = some r) :
    Calls Try.prog 27 #[.slice A0 l0.length c0] w fun e w' => ∃ v0_ : Value, e = .returned (v0_) ∧ Kd.S (Kd.slice 77 k77) 33 w' w.heap.size (fun _ => True) v0_ r ∧ Below w.heap.size w w' := by
  have HO0 := Aside0.mk (show Kd.V (Kd.slice 77 k77) 33 w w.heap.size (fun k_ => (P0_ k_ ∨ w.heap.size ≤ k_)) (.slice A0 l0.length c0) l0 from Kd.V_mono hs0 (fun k_ hk => .inl hk))
  have HB := Aside0.mk (Below.refl w.heap.size w)
  have H : (impl_RowsOnce.l0 k ([] : List (List (S77))) l0 (l0.length : Int) 0) = some r := h
  clear h
  have H' := Aside0.mk H
  clear H
  go_enter Try.func27, Try.ntmps27
  go_wp2
  go_loopg [3, 8] k (fun kq v3 v8 w' => ∃ (x3_1 : List (List (S77))) (x8_1 : Int), v8 = .int .i64 x8_1 ∧ Aside0 (impl_RowsOnce.l0 kq x3_1 l0 (l0.length : Int) x8_1 = some r) ∧ Aside0 (kq ≤ k) ∧ Aside0 (Kd.N (Kd.slice 77 k77) 33 w' w.heap.size (fun k_ => (P0_ k_ ∨ w.heap.size ≤ k_)) v3 x3_1) ∧ Aside0 (Kd.V (Kd.slice 77 k77) 33 w' w.heap.size (fun k_ => (P0_ k_ ∨ w.heap.size ≤ k_) ∧ some k_ ≠ (v3 : Value).ownBlock) (.slice A0 l0.length c0) l0) ∧ Aside0 (Below w.heap.size w w'))
  case atStart => exact ⟨(([] : List (List (S77)))), (0), (by first | rfl | (simp; done) | (simp [*]; done)), H', ⟨Nat.le_refl _⟩, ⟨by first | exact Kd.S_nil _ _ _ _ _ | exact Kd.N_nil _ _ _ _ _ | exact Kd.V_nil _ _ _ _ _ | exact Kd.Q_nil _ _ _ _ _ | exact Kd.R_nil _ _ _ _ _⟩, ⟨by (with_reducible repeat (first | apply Kd.V_alloc | apply Kd.V_drewN | apply Kd.V_drew)); exact Kd.V_mono HO0.out (fun _ hk => ⟨hk, (by simp [Value.ownBlock])⟩)⟩, ⟨by repeat (first | (with_reducible first | exact HB.out | apply below_alloc | apply pw_below_drewN | apply below_drew1) | exact HB.out)⟩⟩
  case round =>
    clear H'
    obtain ⟨x3_1, x8_1, rfl, HA, HK1, HO_3, HO_6, HB⟩ := hrel
    cases gk with
    | zero => exact absurd HA.out (by simp [impl_RowsOnce.l0])
    | succ k1 =>
      have H := HA.out
      clear HA
      simp only [impl_RowsOnce.l0] at H
      by_cases c2 : x8_1 < (l0.length : Int)
      · rw [if_pos c2] at H
        have c2b0 : decide (x8_1 < (l0.length : Int)) = true := decide_eq_true c2
        clear c2
        by_cases c3 : 0 ≤ x8_1
        · rw [if_pos c3] at H
          have c3b0 : decide (0 ≤ x8_1) = true := decide_eq_true c3
          clear c3
          by_cases c4 : x8_1 < (l0.length : Int)
          · rw [if_pos c4] at H
            have c4b0 : decide (x8_1 < (l0.length : Int)) = true := decide_eq_true c4
            clear c4
            replace H := Option.bind_eq_some_iff.mp H
            obtain ⟨t413, A50, H⟩ := H
            replace H : (if t413 = true then (impl_RowsOnce.l0 k1 x3_1 l0 (l0.length : Int) (wrap64 (x8_1 + 1))) else (if x3_1.length < 5864062014805 then (impl_RowsOnce.l0 k1 (x3_1 ++ [rd_L5 l0 x8_1]) l0 (l0.length : Int) (wrap64 (x8_1 + 1))) else (none))) = some r := H
            have A5 := Aside0.mk A50
            clear A50
            by_cases c6 : t413 = true
            · subst c6
              have H1 : (impl_RowsOnce.l0 k1 x3_1 l0 (l0.length : Int) (wrap64 (x8_1 + 1))) = some r := by rw [if_pos rfl] at H; exact H
              clear H
              have H := H1
              clear H1
              have H' := Aside0.mk H
              clear H
              have p412 : 0 ≤ (x8_1 : Int) := of_decide_eq_true (by first | (with_reducible assumption) | assumption)
              have q412 : x8_1 < (l0.length : Int) := of_decide_eq_true (by first | (with_reducible assumption) | assumption)
              obtain ⟨ad412, A412_0, c412_0, e412, hx412_0, hl412_0, hi412_0⟩ := at_L5 (Kd.V_reads' HO_6.out).2.2 x8_1 p412 q412
              cases e412
              obtain ⟨ce412, hce412, hMe412, hcc412⟩ := Kd.V_get HO_6.out [] x8_1 p412 (by first | exact q412 | exact of_decide_eq_true (by first | (with_reducible assumption) | assumption) | (have e_ := (Kd.V_reads' HO_6.out).1; omega))
              obtain ⟨ua412_0, uc412_0, rfl, ul412_0, ge412_0⟩ := Kd.FK_slice_open hMe412
              have hv412_0 := hcc412 0 _ rfl
              rw [Nat.add_zero, show ((Kd.slice 77 k77)).sz = 1 from rfl, Nat.mul_one] at hv412_0
              replace hv412_0 := Option.some.inj (hv412_0.symm.trans hx412_0)
              injection hv412_0 with hva_ hvn_ hvc_
              rw [hva_] at ge412_0
              rw [hvc_] at ul412_0
              have HL412_0 := Aside0.mk (show Kd.V k77 77 _ w.heap.size _ _ (rd_L5 l0 x8_1) from Kd.V_mk ul412_0 ge412_0)
              clear hva_ hvn_ hvc_ ge412_0 ul412_0
              clear hcc412 hce412
              have HR412_0 := Aside0.mk hi412_0
              have HC412_0 := Aside0.mk hl412_0
              clear hi412_0 hl412_0
              replace p412 := eq_true p412
              replace q412 := eq_true q412
              obtain ⟨Ao7, co7, eo7⟩ := Kd.N_slice HO_3.out
              subst eo7
              go_wp2_with (first | ((with_reducible refine gate_callee (f := 64) rfl ?_); refine goesL_ (some 14) rfl rfl Try.func64 (by kernel_rfl) rfl #[.slice Ao7 x3_1.length co7, .slice A412_0 (rd_L5 l0 x8_1).length c412_0] rfl (by (try simp only [List.map_toArray, List.map_cons, List.map_nil]); first | done | rfl | (simp only [List.length_drop, List.length_take]; rfl)) ?_; (with_reducible refine (impl_rowsHas.calls k1 _ _ x3_1 _ _ (rd_L5 l0 x8_1) true _ ?side1 ?side2 ?side3 ?side4 A5.out).mono ?_); (case side1 => repeat (first | exact (Kd.N_reads' HO_3.out).2.2 | (with_reducible refine Kd.C_alloc ?_ _) | (with_reducible refine Kd.C_drewN ?_ _) | (with_reducible refine Kd.C_drew ?_))); (case side2 => exact (Kd.N_reads' HO_3.out).2.1); (case side3 => repeat (first | exact (by repeat (first | (with_reducible exact HR412_0.out) | (with_reducible refine Kd.C_alloc ?_ _) | (with_reducible refine Kd.C_drewN ?_ _) | (with_reducible refine Kd.C_drew ?_) | exact HR412_0.out)) | (with_reducible refine Kd.C_alloc ?_ _) | (with_reducible refine Kd.C_drewN ?_ _) | (with_reducible refine Kd.C_drew ?_))); (case side4 => exact HC412_0.out); rintro e w' ⟨rfl, ⟨nd, rfl⟩⟩; refine ⟨_, rfl, ?_⟩))
              go_roundg k1
              case measure => have := HK1.out; omega
              case rel => exact ⟨(x3_1), (wrap64 (x8_1 + 1)), (by first | rfl | (simp; done) | (simp [*]; done)), H', ⟨by have := HK1.out; omega⟩, ⟨by (with_reducible repeat (first | apply Kd.N_alloc | apply Kd.N_drewN | apply Kd.N_drew)); exact HO_3.out⟩, ⟨by (with_reducible repeat (first | apply Kd.V_alloc | apply Kd.V_drewN | apply Kd.V_drew)); exact HO_6.out⟩, ⟨by repeat (first | (with_reducible first | exact HB.out | apply below_alloc | apply pw_below_drewN | apply below_drew1) | exact HB.out)⟩⟩
            · replace c6 := Bool.eq_false_iff.mpr c6
              subst c6
              have H1 : (if x3_1.length < 5864062014805 then (impl_RowsOnce.l0 k1 (x3_1 ++ [rd_L5 l0 x8_1]) l0 (l0.length : Int) (wrap64 (x8_1 + 1))) else (none)) = some r := by rw [if_neg (show ¬ (false = true) by decide)] at H; exact H
              clear H
              have H := H1
              clear H1
              by_cases c8 : x3_1.length < 5864062014805
              · rw [if_pos c8] at H
                have LMc8 := Aside0.mk c8
                clear c8
                obtain ⟨y414, hy414⟩ : ∃ y_ : List (List (S77)), y_ = (x3_1 ++ [rd_L5 l0 x8_1]) := ⟨_, rfl⟩
                replace H : (impl_RowsOnce.l0 k1 y414 l0 (l0.length : Int) (wrap64 (x8_1 + 1))) = some r := by first | (rw [hy414]; with_reducible exact H) | (have H2_ := (Option.bind_some _ _).symm.trans H; rw [hy414]; with_reducible exact H2_) | (have H2_ := (Option.bind_some _ _).symm.trans H; with_reducible exact H2_) | with_reducible exact H | (rw [hy414]; exact H) | exact H
                have Ny414 := Aside0.mk hy414
                clear hy414
                have H' := Aside0.mk H
                clear H
                have p412 : 0 ≤ (x8_1 : Int) := of_decide_eq_true (by first | (with_reducible assumption) | assumption)
                have q412 : x8_1 < (l0.length : Int) := of_decide_eq_true (by first | (with_reducible assumption) | assumption)
                obtain ⟨ad412, A412_0, c412_0, e412, hx412_0, hl412_0, hi412_0⟩ := at_L5 (Kd.V_reads' HO_6.out).2.2 x8_1 p412 q412
                cases e412
                obtain ⟨ce412, hce412, hMe412, hcc412⟩ := Kd.V_get HO_6.out [] x8_1 p412 (by first | exact q412 | exact of_decide_eq_true (by first | (with_reducible assumption) | assumption) | (have e_ := (Kd.V_reads' HO_6.out).1; omega))
                obtain ⟨ua412_0, uc412_0, rfl, ul412_0, ge412_0⟩ := Kd.FK_slice_open hMe412
                have hv412_0 := hcc412 0 _ rfl
                rw [Nat.add_zero, show ((Kd.slice 77 k77)).sz = 1 from rfl, Nat.mul_one] at hv412_0
                replace hv412_0 := Option.some.inj (hv412_0.symm.trans hx412_0)
                injection hv412_0 with hva_ hvn_ hvc_
                rw [hva_] at ge412_0
                rw [hvc_] at ul412_0
                have HL412_0 := Aside0.mk (show Kd.V k77 77 _ w.heap.size _ _ (rd_L5 l0 x8_1) from Kd.V_mk ul412_0 ge412_0)
                clear hva_ hvn_ hvc_ ge412_0 ul412_0
                clear hcc412 hce412
                have HR412_0 := Aside0.mk hi412_0
                have HC412_0 := Aside0.mk hl412_0
                clear hi412_0 hl412_0
                replace p412 := eq_true p412
                replace q412 := eq_true q412
                obtain ⟨Ao9, co9, eo9⟩ := Kd.N_slice HO_3.out
                subst eo9
                go_wp2_with (first | ((with_reducible refine gate_callee (f := 64) rfl ?_); refine goesL_ (some 14) rfl rfl Try.func64 (by kernel_rfl) rfl #[.slice Ao9 x3_1.length co9, .slice A412_0 (rd_L5 l0 x8_1).length c412_0] rfl (by (try simp only [List.map_toArray, List.map_cons, List.map_nil]); first | done | rfl | (simp only [List.length_drop, List.length_take]; rfl)) ?_; (with_reducible refine (impl_rowsHas.calls k1 _ _ x3_1 _ _ (rd_L5 l0 x8_1) false _ ?side1 ?side2 ?side3 ?side4 A5.out).mono ?_); (case side1 => repeat (first | exact (Kd.N_reads' HO_3.out).2.2 | (with_reducible refine Kd.C_alloc ?_ _) | (with_reducible refine Kd.C_drewN ?_ _) | (with_reducible refine Kd.C_drew ?_))); (case side2 => exact (Kd.N_reads' HO_3.out).2.1); (case side3 => repeat (first | exact (by repeat (first | (with_reducible exact HR412_0.out) | (with_reducible refine Kd.C_alloc ?_ _) | (with_reducible refine Kd.C_drewN ?_ _) | (with_reducible refine Kd.C_drew ?_) | exact HR412_0.out)) | (with_reducible refine Kd.C_alloc ?_ _) | (with_reducible refine Kd.C_drewN ?_ _) | (with_reducible refine Kd.C_drew ?_))); (case side4 => exact HC412_0.out); rintro e w' ⟨rfl, ⟨nd, rfl⟩⟩; refine ⟨_, rfl, ?_⟩) | ((with_reducible refine gate_builtin (b := .append) (xs := #[.tmp 16, .tmp 18]) rfl ?_); at_builtin; refine Kd.N_append (Kd.slice 77 k77) (w0 := w) w.heap.size rfl (.tmp 16) (.tmp 18) 24 33 (.slice none 0 0) 24 rfl Try.underlying24 info33 rfl (by decide) (by omega) (.slice Ao9 x3_1.length co9) x3_1 (rd_L5 l0 x8_1) [.slice A412_0 (rd_L5 l0 x8_1).length c412_0] (fun k_ => (P0_ k_ ∨ w.heap.size ≤ k_)) (fun k_ => ((fun k_ => (P0_ k_ ∨ w.heap.size ≤ k_))) k_ ∧ some k_ ≠ (.slice Ao9 x3_1.length co9 : Value).ownBlock) rfl rfl ?aP (fun _ hk => hk) ?aF ?aO ?aB ?aS ?aL ?_; (case aP => first | exact (Kd.FK_slice_mk (Kd.V_reads' (Kd.V_mono (ok' := (fun k_ => ((fun k_ => (P0_ k_ ∨ w.heap.size ≤ k_))) k_ ∧ some k_ ≠ (.slice Ao9 x3_1.length co9 : Value).ownBlock)) (HL412_0.out) (fun k_ hk => ⟨hk.1, hk.2⟩))).2.1 (Kd.V_F (Kd.V_mono (ok' := (fun k_ => ((fun k_ => (P0_ k_ ∨ w.heap.size ≤ k_))) k_ ∧ some k_ ≠ (.slice Ao9 x3_1.length co9 : Value).ownBlock)) (HL412_0.out) (fun k_ hk => ⟨hk.1, hk.2⟩)))) | exact Kd.FK_below (Kd.FK_slice_mk (Kd.V_reads' (Kd.V_mono (ok' := (fun k_ => ((fun k_ => (P0_ k_ ∨ w.heap.size ≤ k_))) k_ ∧ some k_ ≠ (.slice Ao9 x3_1.length co9 : Value).ownBlock)) (HL412_0.out) (fun k_ hk => ⟨hk.1, hk.2⟩))).2.1 (Kd.V_F (Kd.V_mono (ok' := (fun k_ => ((fun k_ => (P0_ k_ ∨ w.heap.size ≤ k_))) k_ ∧ some k_ ≠ (.slice Ao9 x3_1.length co9 : Value).ownBlock)) (HL412_0.out) (fun k_ hk => ⟨hk.1, hk.2⟩)))) (by repeat (first | exact Below.refl _ _ | apply below_alloc | apply pw_below_drewN | apply below_drew1))); (case aB => exact (by repeat (first | (with_reducible first | exact HB.out | apply below_alloc | apply pw_below_drewN | apply below_drew1) | exact HB.out))); (case aF => exact (fun k_ hk => (.inr (Nat.le_trans (below_size (by repeat (first | (with_reducible first | exact HB.out | apply below_alloc | apply pw_below_drewN | apply below_drew1) | exact HB.out))) hk)))); (case aO => exact (by (with_reducible repeat (first | apply Kd.N_alloc | apply Kd.N_drewN | apply Kd.N_drew)); exact HO_3.out)); (case aS => exact (below_size (by repeat (first | (with_reducible first | exact HB.out | apply below_alloc | apply pw_below_drewN | apply below_drew1) | exact HB.out)))); (case aL => have := LMc8.out; omega); intro v415 w10 ho hb hg hat; rw [← Ny414.out] at ho; have n0_ := Aside0.mk (Kd.V_afterv (ok := (fun k_ => (P0_ k_ ∨ w.heap.size ≤ k_))) (by (with_reducible repeat (first | apply Kd.V_alloc | apply Kd.V_drewN | apply Kd.V_drew)); exact HO_6.out) hg hat); have n1_ := Aside0.mk (Kd.V_afterv (ok := (fun k_ => (P0_ k_ ∨ w.heap.size ≤ k_))) (by (with_reducible repeat (first | apply Kd.V_alloc | apply Kd.V_drewN | apply Kd.V_drew)); exact HL412_0.out) hg hat); have n2_ := Aside0.mk (hb); have n3_ := Aside0.mk (ho); clear HO_6; clear HL412_0; clear HB; clear HO_3; have HO_6 := n0_; have HL412_0 := n1_; have HB := n2_; have HO416 := n3_; clear n0_ n1_ n2_ n3_; clear ho hb hg hat))
                go_roundg k1
                case measure => have := HK1.out; omega
                case rel => exact ⟨(y414), (wrap64 (x8_1 + 1)), (by first | rfl | (simp; done) | (simp [*]; done)), H', ⟨by have := HK1.out; omega⟩, ⟨by (with_reducible repeat (first | apply Kd.N_alloc | apply Kd.N_drewN | apply Kd.N_drew)); exact HO416.out⟩, ⟨by (with_reducible repeat (first | apply Kd.V_alloc | apply Kd.V_drewN | apply Kd.V_drew)); exact HO_6.out⟩, ⟨by repeat (first | (with_reducible first | exact HB.out | apply below_alloc | apply pw_below_drewN | apply below_drew1) | exact HB.out)⟩⟩
              · rw [if_neg c8] at H
                exact absurd H (by simp)
          · rw [if_neg c4] at H
            exact absurd H (by simp)
        · rw [if_neg c3] at H
          exact absurd H (by simp)
      · rw [if_neg c2] at H
        have c2b0 : decide (x8_1 < (l0.length : Int)) = false := decide_eq_false c2
        clear c2
        replace H := Option.bind_eq_some_iff.mp H
        obtain ⟨t417, A110, H⟩ := H
        replace H : (some t417) = some r := H
        have A11 := Aside0.mk A110
        clear A110
        obtain rfl := Option.some.inj H
        obtain ⟨Ao12, co12, eo12⟩ := Kd.N_slice HO_3.out
        subst eo12
        go_wp2_with (first | ((with_reducible refine gate_callee (f := 53) rfl ?_); refine goesL_ (some 22) rfl rfl Try.func53 (by kernel_rfl) rfl #[.slice Ao12 x3_1.length co12] rfl (by (try simp only [List.map_toArray, List.map_cons, List.map_nil]); first | done | rfl | (simp only [List.length_drop, List.length_take]; rfl)) ?_; (with_reducible refine (impl_rowsCopy.calls _ _ x3_1 t417 _ ?side1 ?side2 A11.out).mono ?_); (case side1 => repeat (first | exact (Kd.N_reads' HO_3.out).2.2 | (with_reducible refine Kd.C_alloc ?_ _) | (with_reducible refine Kd.C_drewN ?_ _) | (with_reducible refine Kd.C_drew ?_))); (case side2 => exact (Kd.N_reads' HO_3.out).2.1); rintro e w13 ⟨v418, rfl, ho0, hb⟩; refine ⟨_, rfl, ?_⟩; have HSOWN := Aside0.mk (Kd.S_lower ho0 (below_size (by repeat (first | (with_reducible first | exact HB.out | apply below_alloc | apply pw_below_drewN | apply below_drew1) | exact HB.out)))); have n0_ := Aside0.mk (Kd.N_elder' (by (with_reducible repeat (first | apply Kd.N_alloc | apply Kd.N_drewN | apply Kd.N_drew)); exact HO_3.out) (Kd.S_base ho0) hb); have n1_ := Aside0.mk (Kd.V_elder' (by (with_reducible repeat (first | apply Kd.V_alloc | apply Kd.V_drewN | apply Kd.V_drew)); exact HO_6.out) (Kd.S_base ho0) hb); have n2_ := Aside0.mk (Kd.N_lower (Kd.N_mono (ok' := fun k_ => (P0_ k_ ∨ w.heap.size ≤ k_) ∧ some k_ ≠ (.slice Ao12 x3_1.length co12 : Value).ownBlock) (Kd.S_N (Kd.S_bound ho0)) (fun k_ hk_ => ⟨(.inr (Nat.le_trans (below_size (by repeat (first | (with_reducible first | exact HB.out | apply below_alloc | apply pw_below_drewN | apply below_drew1) | exact HB.out))) hk_.2.1)), (Kd.fresh' (Kd.N_lt (by (with_reducible repeat (first | apply Kd.N_alloc | apply Kd.N_drewN | apply Kd.N_drew)); exact HO_3.out)) k_ hk_.2.1)⟩)) (below_size (by repeat (first | (with_reducible first | exact HB.out | apply below_alloc | apply pw_below_drewN | apply below_drew1) | exact HB.out)))); have n3_ := Aside0.mk (below_step (by repeat (first | (with_reducible first | exact HB.out | apply below_alloc | apply pw_below_drewN | apply below_drew1) | exact HB.out)) hb); clear HO_3; clear HO_6; clear HB; have HO_3 := n0_; have HO_6 := n1_; have HO419 := n2_; have HB := n3_; clear n0_ n1_ n2_ n3_; (try clear hb); (try clear hb2); (try clear hk); (try clear hi); (try clear ho0)))
        go_ret
        exact ⟨_, by first | rfl | (simp [errW_none, errW_some] <;> rfl) | (simp [*, errW_none, errW_some] <;> rfl), HSOWN.out, by repeat (first | (with_reducible first | exact HB.out | apply below_alloc | apply pw_below_drewN | apply below_drew1) | exact HB.out)⟩
end

section
/-! ### spec_l3Own: function 52 -/
def spec_l3Own.f (l0 : List (S77)) : Option ((List (S77))) := (some (([] : List (S77)) : List (S77))).bind fun y420 => (if y420.length + l0.length < 4398046511104 then (some (y420 ++ l0)) else (none))
set_option maxHeartbeats 8000000 in
set_option maxRecDepth 100000 in
theorem spec_l3Own.calls (A0 : Option Addr) (c0 : Nat) (l0 : List (S77)) (r : List (S77)) (w : World) (hr0 : Kd.C k77 w A0 l0.length l0) (hc0 : l0.length ≤ c0) (h : spec_l3Own.f l0 = some r) :
    Calls Try.prog 52 #[.slice A0 l0.length c0] w fun e w' => ∃ v0_ : Value, e = .returned (v0_) ∧ Kd.R k77 77 w' w.heap.size (fun _ => True) v0_ r ∧ Below w.heap.size w w' := by
  have HR0 := Aside0.mk hr0
  have HC0 := Aside0.mk hc0
  clear hr0 hc0
  have HB := Aside0.mk (Below.refl w.heap.size w)
  have H : ((some (([] : List (S77)) : List (S77))).bind fun y420 => (if y420.length + l0.length < 4398046511104 then (some (y420 ++ l0)) else (none))) = some r := h
  clear h
  obtain ⟨y420, hy420⟩ : ∃ y_ : List (S77), y_ = (([] : List (S77))) := ⟨_, rfl⟩
  replace H : (if y420.length + l0.length < 4398046511104 then (some (y420 ++ l0)) else (none)) = some r := by first | (rw [hy420]; with_reducible exact H) | (have H2_ := (Option.bind_some _ _).symm.trans H; rw [hy420]; with_reducible exact H2_) | (have H2_ := (Option.bind_some _ _).symm.trans H; with_reducible exact H2_) | with_reducible exact H | (rw [hy420]; exact H) | exact H
  have Ny420 := Aside0.mk hy420
  clear hy420
  by_cases c2 : y420.length + l0.length < 4398046511104
  · rw [if_pos c2] at H
    have LMc2 := Aside0.mk c2
    clear c2
    obtain ⟨y423, hy423⟩ : ∃ y_ : List (S77), y_ = (y420 ++ l0) := ⟨_, rfl⟩
    replace H : (some y423) = some r := by first | (rw [hy423]; with_reducible exact H) | (have H2_ := (Option.bind_some _ _).symm.trans H; rw [hy423]; with_reducible exact H2_) | (have H2_ := (Option.bind_some _ _).symm.trans H; with_reducible exact H2_) | with_reducible exact H | (rw [hy423]; exact H) | exact H
    have Ny423 := Aside0.mk hy423
    clear hy423
    obtain rfl := Option.some.inj H
    go_enter Try.func52, Try.ntmps52
    go_wp2_with (first | ((with_reducible refine gate_dst (N := 3) rfl ?_); refine Kd.R_lit k77 _ 77 ?hg (N := 3) ?hd (xs := ([] : List (S77))) (inner := []) (ok := fun _ => True) (okp := fun _ => True) ?hr ?hp (fun _ hk => hk) trivial (Below.refl _ _) (Nat.le_refl _) (by simp) ?_; (case hd => rfl); (case hg => rfl); (case hr => first | (go_simp; done) | (go_simp; rfl)); (case hp => exact (Reps.none _ _)); intro v421 w3 ho4 hb hg_ hnew_; clear hg_ hnew_; (first | rw [← Ny420.out] at ho4 | (simp only [Int.reduceToNat] at ho4; rw [← Ny420.out] at ho4)); have n0_ := Aside0.mk (Kd.R_lower ho4 (below_size (by repeat (first | (with_reducible first | exact HB.out | apply below_alloc | apply pw_below_drewN | apply below_drew1) | exact HB.out)))); have n1_ := Aside0.mk (below_step (by repeat (first | (with_reducible first | exact HB.out | apply below_alloc | apply pw_below_drewN | apply below_drew1) | exact HB.out)) hb); clear HB; have HO422 := n0_; have HB := n1_; clear n0_ n1_; clear hb ho4) | ((with_reducible refine gate_builtin (b := .append) (xs := #[.tmp 3, .tmp 4]) rfl ?_); at_builtin; refine Kd.R_append_rows k77 (w0 := w) w.heap.size rfl (.tmp 3) (.tmp 4) 33 77 (.agg #[(.int .i64 0), (.int .i64 0), (.string ⟨#[]⟩)]) 32 rfl Try.underlying33 info77 rfl (by decide) (by omega) v421 y420 l0 _ _ _ (fun _ => True) (fun _ => False) rfl rfl ?aO ?aR (fun _ _ h => h) (fun _ h => h.elim) ?aF ?aB ?aS ?aL ?_; (case aR => repeat (first | exact (Kd.C_below HR0.out HB.out) | (with_reducible refine Kd.C_alloc ?_ _) | (with_reducible refine Kd.C_drewN ?_ _) | (with_reducible refine Kd.C_drew ?_))); (case aB => exact (by repeat (first | (with_reducible first | exact HB.out | apply below_alloc | apply pw_below_drewN | apply below_drew1) | exact HB.out))); (case aF => exact (fun _ _ => trivial)); (case aO => exact (by (with_reducible repeat (first | apply Kd.R_alloc | apply Kd.R_drewN | apply Kd.R_drew)); exact HO422.out)); (case aS => exact (below_size (by repeat (first | (with_reducible first | exact HB.out | apply below_alloc | apply pw_below_drewN | apply below_drew1) | exact HB.out)))); (case aL => have := LMc2.out; omega); intro v424 w5 ho hb hg hat; rw [← Ny423.out] at ho; have n0_ := Aside0.mk (hb); have n1_ := Aside0.mk (ho); clear HB; clear HO422; have HB := n0_; have HO425 := n1_; clear n0_ n1_; clear ho hb hg hat))
    go_ret
    exact ⟨_, by first | rfl | (simp [errW_none, errW_some] <;> rfl) | (simp [*, errW_none, errW_some] <;> rfl), by (with_reducible repeat (first | apply Kd.R_alloc | apply Kd.R_drewN | apply Kd.R_drew)); exact HO425.out, by repeat (first | (with_reducible first | exact HB.out | apply below_alloc | apply pw_below_drewN | apply below_drew1) | exact HB.out)⟩
  · rw [if_neg c2] at H
    exact absurd H (by simp)

/-! ### spec_RowsOnce: function 29 -/
def spec_RowsOnce.l0 : Nat → List (List (S77)) → List (List (S77)) → Int → Option ((List (List (S77))))
  | 0, _, _, _ => none
  | k + 1, x0, x3, x4 => if x4 < (x0.length : Int) then (if 0 ≤ x4 then ((spec_RowMany.f k x3 (rd_L5 x0 x4)).bind fun t430 => (if t430 = 0 then ((spec_l3Own.f (rd_L5 x0 x4)).bind fun t432 => (if x3.length < 5864062014805 then (spec_RowsOnce.l0 k x0 (x3 ++ [t432]) (wrap64 (x4 + 1))) else (none))) else (spec_RowsOnce.l0 k x0 x3 (wrap64 (x4 + 1))))) else (none)) else (some x3)
def spec_RowsOnce.f (k : Nat) (l0 : List (List (S77))) : Option ((List (List (S77)))) := spec_RowsOnce.l0 k l0 (([] : List (List (S77)))) 0
theorem spec_RowsOnce.mono_l : ∀ k, (∀ y0 y1 y2, LeO (spec_RowsOnce.l0 k y0 y1 y2) (spec_RowsOnce.l0 (k + 1) y0 y1 y2))
  | 0 => fun _ _ _ r h => by simp [spec_RowsOnce.l0] at h
  | k + 1 => by
    have ih0 := spec_RowsOnce.mono_l k
    · intro y0 y1 y2
      unfold spec_RowsOnce.l0
      repeat' first
      | (with_reducible exact ih0 _ _ _)
      | (with_reducible exact spec_RowMany.mono _ _ _)
      | (with_reducible exact LeO.refl _)
      | (with_reducible exact LeO.none _)
      | (with_reducible refine LeO.ite ?_ ?_)
      | (with_reducible refine LeO.bind ?_ (fun _ => ?_))
      | exact ih0 _ _ _
      | exact spec_RowMany.mono _ _ _
      | exact LeO.none _
      | refine LeO.ite ?_ ?_
      | refine LeO.bind ?_ (fun _ => ?_)
theorem spec_RowsOnce.mono : ∀ a0 k, LeO (spec_RowsOnce.f k a0) (spec_RowsOnce.f (k + 1) a0) := by
  intro a0 k
  have ih0 := spec_RowsOnce.mono_l k
  unfold spec_RowsOnce.f
  repeat' first
      | (with_reducible exact ih0 _ _ _)
      | (with_reducible exact spec_RowMany.mono _ _ _)
      | (with_reducible exact LeO.refl _)
      | (with_reducible exact LeO.none _)
      | (with_reducible refine LeO.ite ?_ ?_)
      | (with_reducible refine LeO.bind ?_ (fun _ => ?_))
      | exact ih0 _ _ _
      | exact spec_RowMany.mono _ _ _
      | exact LeO.none _
      | refine LeO.ite ?_ ?_
      | refine LeO.bind ?_ (fun _ => ?_)
set_option maxHeartbeats 8000000 in
set_option maxRecDepth 100000 in
theorem spec_RowsOnce.calls (k : Nat) (A0 : Option Addr) (c0 : Nat) (l0 : List (List (S77))) (r : List (List (S77))) (w : World) (hr0 : Kd.C (Kd.slice 77 k77) w A0 l0.length l0) (hc0 : l0.length ≤ c0) (h : spec_RowsOnce.f k l0 = some r) :
    Calls Try.prog 29 #[.slice A0 l0.length c0] w fun e w' => ∃ v0_ : Value, e = .returned (v0_) ∧ Kd.S (Kd.slice 77 k77) 33 w' w.heap.size (fun _ => True) v0_ r ∧ Below w.heap.size w w' := by
  have HR0 := Aside0.mk hr0
  have HC0 := Aside0.mk hc0
  clear hr0 hc0
  have HB := Aside0.mk (Below.refl w.heap.size w)
  have H : (spec_RowsOnce.l0 k l0 (([] : List (List (S77)))) 0) = some r := h
  clear h
  obtain ⟨y426, hy426⟩ : ∃ y_ : List (List (S77)), y_ = (([] : List (List (S77)))) := ⟨_, rfl⟩
  replace H : (spec_RowsOnce.l0 k l0 y426 0) = some r := by first | (rw [hy426]; with_reducible exact H) | (have H2_ := (Option.bind_some _ _).symm.trans H; rw [hy426]; with_reducible exact H2_) | (have H2_ := (Option.bind_some _ _).symm.trans H; with_reducible exact H2_) | with_reducible exact H | (rw [hy426]; exact H) | exact H
  have Ny426 := Aside0.mk hy426
  clear hy426
  have H' := Aside0.mk H
  clear H
  go_enter Try.func29, Try.ntmps29
  go_wp2_with (first | ((with_reducible refine gate_dst (N := 5) rfl ?_); refine Kd.S_lit (Kd.slice 77 k77) _ 33 ?hg (N := 5) ?hd (xs := ([] : List (List (S77)))) (inner := []) (ok := fun _ => True) (okp := fun _ => True) ?hr ?hp (fun _ hk => hk) trivial (Below.refl _ _) (Nat.le_refl _) (by simp) ?_; (case hd => rfl); (case hg => rfl); (case hr => first | (go_simp; done) | (go_simp; rfl)); (case hp => exact (Reps.none _ _)); intro v427 w2 ho3 hb hg_ hnew_; clear hg_ hnew_; (first | rw [← Ny426.out] at ho3 | (simp only [Int.reduceToNat] at ho3; rw [← Ny426.out] at ho3)); have n0_ := Aside0.mk (Kd.S_lower ho3 (below_size (by repeat (first | (with_reducible first | exact HB.out | apply below_alloc | apply pw_below_drewN | apply below_drew1) | exact HB.out)))); have n1_ := Aside0.mk (below_step (by repeat (first | (with_reducible first | exact HB.out | apply below_alloc | apply pw_below_drewN | apply below_drew1) | exact HB.out)) hb); clear HB; have HO428 := n0_; have HB := n1_; clear n0_ n1_; clear hb ho3))
  go_loopg [3, 4] k (fun kq v3 v4 w' => ∃ (x3_1 : List (List (S77))) (x4_1 : Int), v4 = .int .i64 x4_1 ∧ Aside0 (spec_RowsOnce.l0 kq l0 x3_1 x4_1 = some r) ∧ Aside0 (kq ≤ k) ∧ Aside0 (Kd.S (Kd.slice 77 k77) 33 w' w.heap.size (fun _ => True) v3 x3_1) ∧ Aside0 (Below w.heap.size w w'))
  case atStart => exact ⟨(y426), (0), (by first | rfl | (simp; done) | (simp [*]; done)), H', ⟨Nat.le_refl _⟩, ⟨by (with_reducible repeat (first | apply Kd.S_alloc | apply Kd.S_drewN | apply Kd.S_drew)); exact HO428.out⟩, ⟨by repeat (first | (with_reducible first | exact HB.out | apply below_alloc | apply pw_below_drewN | apply below_drew1) | exact HB.out)⟩⟩
  case round =>
    clear H'
    try clear c2
    try clear p2
    obtain ⟨x3_1, x4_1, rfl, HA, HK1, HO_3, HB⟩ := hrel
    cases gk with
    | zero => exact absurd HA.out (by simp [spec_RowsOnce.l0])
    | succ k1 =>
      have H := HA.out
      clear HA
      simp only [spec_RowsOnce.l0] at H
      by_cases c4 : x4_1 < (l0.length : Int)
      · rw [if_pos c4] at H
        have c4b0 : decide (x4_1 < (l0.length : Int)) = true := decide_eq_true c4
        clear c4
        by_cases c5 : 0 ≤ x4_1
        · rw [if_pos c5] at H
          have c5b0 : decide (0 ≤ x4_1) = true := decide_eq_true c5
          clear c5
          replace H := Option.bind_eq_some_iff.mp H
          obtain ⟨t430, A60, H⟩ := H
          replace H : (if t430 = 0 then ((spec_l3Own.f (rd_L5 l0 x4_1)).bind fun t432 => (if x3_1.length < 5864062014805 then (spec_RowsOnce.l0 k1 l0 (x3_1 ++ [t432]) (wrap64 (x4_1 + 1))) else (none))) else (spec_RowsOnce.l0 k1 l0 x3_1 (wrap64 (x4_1 + 1)))) = some r := H
          have A6 := Aside0.mk A60
          clear A60
          by_cases c7 : t430 = 0
          · rw [if_pos c7] at H
            have c7b0 : (t430 == 0) = true := beq_iff_eq.mpr c7
            have c7b1 : (t430 != 0) = false := bne_eq_false_iff_eq.mpr c7
            clear c7
            replace H := Option.bind_eq_some_iff.mp H
            obtain ⟨t432, A80, H⟩ := H
            replace H : (if x3_1.length < 5864062014805 then (spec_RowsOnce.l0 k1 l0 (x3_1 ++ [t432]) (wrap64 (x4_1 + 1))) else (none)) = some r := H
            have A8 := Aside0.mk A80
            clear A80
            by_cases c9 : x3_1.length < 5864062014805
            · rw [if_pos c9] at H
              have LMc9 := Aside0.mk c9
              clear c9
              obtain ⟨y435, hy435⟩ : ∃ y_ : List (List (S77)), y_ = (x3_1 ++ [t432]) := ⟨_, rfl⟩
              replace H : (spec_RowsOnce.l0 k1 l0 y435 (wrap64 (x4_1 + 1))) = some r := by first | (rw [hy435]; with_reducible exact H) | (have H2_ := (Option.bind_some _ _).symm.trans H; rw [hy435]; with_reducible exact H2_) | (have H2_ := (Option.bind_some _ _).symm.trans H; with_reducible exact H2_) | with_reducible exact H | (rw [hy435]; exact H) | exact H
              have Ny435 := Aside0.mk hy435
              clear hy435
              have H' := Aside0.mk H
              clear H
              have p429 : 0 ≤ (x4_1 : Int) := of_decide_eq_true (by first | (with_reducible assumption) | assumption)
              have q429 : x4_1 < (l0.length : Int) := of_decide_eq_true (by first | (with_reducible assumption) | assumption)
              obtain ⟨ad429, A429_0, c429_0, e429, hx429_0, hl429_0, hi429_0⟩ := at_L5 HR0.out x4_1 p429 q429
              cases e429
              replace hx429_0 := (HB.out.cell (World.block_lt_of_cell? w _ hx429_0)).trans hx429_0
              have HR429_0 := Aside0.mk hi429_0
              have HC429_0 := Aside0.mk hl429_0
              clear hi429_0 hl429_0
              replace p429 := eq_true p429
              replace q429 := eq_true q429
              obtain ⟨Ao10, co10, eo10⟩ := Kd.S_slice HO_3.out
              subst eo10
              go_wp2_with (first | ((with_reducible refine gate_callee (f := 20) rfl ?_); refine goesL_ (some 17) rfl rfl Try.func20 (by kernel_rfl) rfl #[.slice Ao10 x3_1.length co10, .slice A429_0 (rd_L5 l0 x4_1).length c429_0] rfl (by (try simp only [List.map_toArray, List.map_cons, List.map_nil]); first | done | rfl | (simp only [List.length_drop, List.length_take]; rfl)) ?_; (with_reducible refine (spec_RowMany.calls k1 _ _ x3_1 _ _ (rd_L5 l0 x4_1) t430 _ ?side1 ?side2 ?side3 ?side4 A6.out).mono ?_); (case side1 => repeat (first | exact (Kd.S_reads' HO_3.out).2.2 | (with_reducible refine Kd.C_alloc ?_ _) | (with_reducible refine Kd.C_drewN ?_ _) | (with_reducible refine Kd.C_drew ?_))); (case side2 => exact (Kd.S_reads' HO_3.out).2.1); (case side3 => repeat (first | exact (Kd.C_below HR429_0.out HB.out) | (with_reducible refine Kd.C_alloc ?_ _) | (with_reducible refine Kd.C_drewN ?_ _) | (with_reducible refine Kd.C_drew ?_))); (case side4 => exact HC429_0.out); rintro e w' ⟨rfl, ⟨nd, rfl⟩⟩; refine ⟨_, rfl, ?_⟩; have p431 : 0 ≤ (x4_1 : Int) := of_decide_eq_true (by first | (with_reducible assumption) | assumption); have q431 : x4_1 < (l0.length : Int) := of_decide_eq_true (by first | (with_reducible assumption) | assumption); obtain ⟨ad431, A431_0, c431_0, e431, hx431_0, hl431_0, hi431_0⟩ := at_L5 HR0.out x4_1 p431 q431; obtain rfl : ad429 = ad431 := (by injection e431); replace hx431_0 := (HB.out.cell (World.block_lt_of_cell? w _ hx431_0)).trans hx431_0; have HR431_0 := Aside0.mk hi431_0; have HC431_0 := Aside0.mk hl431_0; clear hi431_0 hl431_0; replace p431 := eq_true p431; replace q431 := eq_true q431; have ea_ := Option.some.inj (hx429_0.symm.trans hx431_0); injection ea_ with ea_ en_ ec_; subst ea_; subst ec_; clear en_) | ((with_reducible refine gate_callee (f := 52) rfl ?_); refine goesL_ (some 24) rfl rfl Try.func52 (by kernel_rfl) rfl #[.slice A429_0 (rd_L5 l0 x4_1).length c429_0] rfl (by (try simp only [List.map_toArray, List.map_cons, List.map_nil]); first | done | rfl | (simp only [List.length_drop, List.length_take]; rfl)) ?_; (with_reducible refine (spec_l3Own.calls _ _ (rd_L5 l0 x4_1) t432 _ ?side1 ?side2 A8.out).mono ?_); (case side1 => repeat (first | exact (Kd.C_below HR431_0.out (by repeat (first | (with_reducible first | exact HB.out | apply below_alloc | apply pw_below_drewN | apply below_drew1) | exact HB.out))) | (with_reducible refine Kd.C_alloc ?_ _) | (with_reducible refine Kd.C_drewN ?_ _) | (with_reducible refine Kd.C_drew ?_))); (case side2 => exact HC431_0.out); rintro e w11 ⟨v433, rfl, ho0, hb⟩; refine ⟨_, rfl, ?_⟩; have n0_ := Aside0.mk (Kd.S_elder' (by (with_reducible repeat (first | apply Kd.S_alloc | apply Kd.S_drewN | apply Kd.S_drew)); exact HO_3.out) (Kd.R_base ho0) hb); have n1_ := Aside0.mk (Kd.R_lower ho0 (below_size (by repeat (first | (with_reducible first | exact HB.out | apply below_alloc | apply pw_below_drewN | apply below_drew1) | exact HB.out)))); have n2_ := Aside0.mk (below_step (by repeat (first | (with_reducible first | exact HB.out | apply below_alloc | apply pw_below_drewN | apply below_drew1) | exact HB.out)) hb); clear HO_3; clear HB; have HO_3 := n0_; have HO434 := n1_; have HB := n2_; clear n0_ n1_ n2_; (try clear hb); (try clear hb2); (try clear hk); (try clear hi); (try clear ho0); obtain ⟨Ao13, co13, eo13⟩ := Kd.R_slice HO434.out; subst eo13) | ((with_reducible refine gate_builtin (b := .append) (xs := #[.tmp 19, .tmp 25]) rfl ?_); at_builtin; refine Kd.S_append (Kd.slice 77 k77) (w0 := w) w.heap.size rfl (.tmp 19) (.tmp 25) 24 33 (.slice none 0 0) 24 rfl Try.underlying24 info33 rfl (by decide) (by omega) (.slice Ao10 x3_1.length co10) x3_1 t432 [.slice Ao13 t432.length co13] (fun _ => True) (fun k_ => some k_ = (.slice Ao13 t432.length co13 : Value).ownBlock) rfl rfl ?aP (fun k_ hk_ => ((Kd.R_mono (ok' := fun k_ => ((fun _ => True)) k_ ∧ some k_ ≠ (.slice Ao10 x3_1.length co10 : Value).ownBlock) (Kd.R_apart' (HO434.out) (Kd.S_typed HO_3.out) (by decide)) (fun k_ hk => ⟨trivial, hk.2⟩))).1 k_ hk_.symm) ?aF ?aO ?aB ?aS ?aL ?_; (case aP => exact Kd.M_row (Kd.R_mono (Kd.R_tight rfl (Kd.R_mono (ok' := fun k_ => ((fun _ => True)) k_ ∧ some k_ ≠ (.slice Ao10 x3_1.length co10 : Value).ownBlock) (Kd.R_apart' (HO434.out) (Kd.S_typed HO_3.out) (by decide)) (fun k_ hk => ⟨trivial, hk.2⟩))) (fun _ h_ => h_))); (case aB => exact (by repeat (first | (with_reducible first | exact HB.out | apply below_alloc | apply pw_below_drewN | apply below_drew1) | exact HB.out))); (case aF => exact (fun _ _ => trivial)); (case aO => exact (by (with_reducible repeat (first | apply Kd.S_alloc | apply Kd.S_drewN | apply Kd.S_drew)); exact Kd.S_mono HO_3.out (fun k_ hk => ⟨trivial, fun e_ => hk.2 e_⟩))); (case aS => exact (below_size (by repeat (first | (with_reducible first | exact HB.out | apply below_alloc | apply pw_below_drewN | apply below_drew1) | exact HB.out)))); (case aL => have := LMc9.out; omega); intro v436 w12 ho hb hg hat; rw [← Ny435.out] at ho; have n0_ := Aside0.mk (hb); have n1_ := Aside0.mk (ho); clear HB; clear HO_3; clear HO434; have HB := n0_; have HO437 := n1_; clear n0_ n1_; clear ho hb hg hat))
              go_roundg k1
              case measure => have := HK1.out; omega
              case rel => exact ⟨(y435), (wrap64 (x4_1 + 1)), (by first | rfl | (simp; done) | (simp [*]; done)), H', ⟨by have := HK1.out; omega⟩, ⟨by (with_reducible repeat (first | apply Kd.S_alloc | apply Kd.S_drewN | apply Kd.S_drew)); exact HO437.out⟩, ⟨by repeat (first | (with_reducible first | exact HB.out | apply below_alloc | apply pw_below_drewN | apply below_drew1) | exact HB.out)⟩⟩
            · rw [if_neg c9] at H
              exact absurd H (by simp)
          · rw [if_neg c7] at H
            have c7b0 : (t430 == 0) = false := beq_eq_false_iff_ne.mpr c7
            have c7b1 : (t430 != 0) = true := bne_iff_ne.mpr c7
            have H' := Aside0.mk H
            clear H
            have p429 : 0 ≤ (x4_1 : Int) := of_decide_eq_true (by first | (with_reducible assumption) | assumption)
            have q429 : x4_1 < (l0.length : Int) := of_decide_eq_true (by first | (with_reducible assumption) | assumption)
            obtain ⟨ad429, A429_0, c429_0, e429, hx429_0, hl429_0, hi429_0⟩ := at_L5 HR0.out x4_1 p429 q429
            cases e429
            replace hx429_0 := (HB.out.cell (World.block_lt_of_cell? w _ hx429_0)).trans hx429_0
            have HR429_0 := Aside0.mk hi429_0
            have HC429_0 := Aside0.mk hl429_0
            clear hi429_0 hl429_0
            replace p429 := eq_true p429
            replace q429 := eq_true q429
            obtain ⟨Ao14, co14, eo14⟩ := Kd.S_slice HO_3.out
            subst eo14
            go_wp2_with (first | ((with_reducible refine gate_callee (f := 20) rfl ?_); refine goesL_ (some 17) rfl rfl Try.func20 (by kernel_rfl) rfl #[.slice Ao14 x3_1.length co14, .slice A429_0 (rd_L5 l0 x4_1).length c429_0] rfl (by (try simp only [List.map_toArray, List.map_cons, List.map_nil]); first | done | rfl | (simp only [List.length_drop, List.length_take]; rfl)) ?_; (with_reducible refine (spec_RowMany.calls k1 _ _ x3_1 _ _ (rd_L5 l0 x4_1) t430 _ ?side1 ?side2 ?side3 ?side4 A6.out).mono ?_); (case side1 => repeat (first | exact (Kd.S_reads' HO_3.out).2.2 | (with_reducible refine Kd.C_alloc ?_ _) | (with_reducible refine Kd.C_drewN ?_ _) | (with_reducible refine Kd.C_drew ?_))); (case side2 => exact (Kd.S_reads' HO_3.out).2.1); (case side3 => repeat (first | exact (Kd.C_below HR429_0.out HB.out) | (with_reducible refine Kd.C_alloc ?_ _) | (with_reducible refine Kd.C_drewN ?_ _) | (with_reducible refine Kd.C_drew ?_))); (case side4 => exact HC429_0.out); rintro e w' ⟨rfl, ⟨nd, rfl⟩⟩; refine ⟨_, rfl, ?_⟩))
            go_roundg k1
            case measure => have := HK1.out; omega
            case rel => exact ⟨(x3_1), (wrap64 (x4_1 + 1)), (by first | rfl | (simp; done) | (simp [*]; done)), H', ⟨by have := HK1.out; omega⟩, ⟨by (with_reducible repeat (first | apply Kd.S_alloc | apply Kd.S_drewN | apply Kd.S_drew)); exact HO_3.out⟩, ⟨by repeat (first | (with_reducible first | exact HB.out | apply below_alloc | apply pw_below_drewN | apply below_drew1) | exact HB.out)⟩⟩
        · rw [if_neg c5] at H
          exact absurd H (by simp)
      · rw [if_neg c4] at H
        have c4b0 : decide (x4_1 < (l0.length : Int)) = false := decide_eq_false c4
        clear c4
        obtain rfl := Option.some.inj H
        go_wp2
        go_ret
        exact ⟨_, by first | rfl | (simp [errW_none, errW_some] <;> rfl) | (simp [*, errW_none, errW_some] <;> rfl), by (with_reducible repeat (first | apply Kd.S_alloc | apply Kd.S_drewN | apply Kd.S_drew)); exact HO_3.out, by repeat (first | (with_reducible first | exact HB.out | apply below_alloc | apply pw_below_drewN | apply below_drew1) | exact HB.out)⟩
end

section
/-! ### laws_FnExactRowsOnce: function 7 -/
def laws_markValueSS.l0 : Nat → List (List (S77)) → Int → Int → Option (Int × List (List (S77)))
  | 0, _, _, _ => none
  | k + 1, x0, x1, x5 => if x5 < (x0.length : Int) then (if 0 ≤ x5 then ((laws_markValueS.f k (x0.getD x5.toNat []) x1).bind fun bt => laws_markValueSS.l0 k (x0.set x5.toNat bt.2) bt.1 (wrap64 (x5 + 1))) else none) else some (x1, x0)
def laws_markValueSS.f (k : Nat) (l0 : List (List (S77))) (a1 : Int) : Option (Int × List (List (S77))) := laws_markValueSS.l0 k l0 a1 0
theorem laws_markValueSS.len_l : ∀ k x0 x1 x5 r, laws_markValueSS.l0 k x0 x1 x5 = some r → r.2.length = x0.length
  | 0, _, _, _, _, h => by simp [laws_markValueSS.l0] at h
  | k + 1, x0, x1, x5, r, h => by
    rw [laws_markValueSS.l0] at h
    by_cases c1 : x5 < (x0.length : Int)
    · rw [if_pos c1] at h
      by_cases c2 : 0 ≤ x5
      · rw [if_pos c2] at h
        obtain ⟨bt, _, h⟩ := Option.bind_eq_some_iff.mp h
        have := laws_markValueSS.len_l k _ _ _ _ h
        rw [this, List.length_set]
      · rw [if_neg c2] at h; cases h
    · rw [if_neg c1] at h
      obtain rfl := Option.some.inj h
      rfl
theorem laws_markValueSS.len (k : Nat) (l0 : List (List (S77))) (a1 : Int) (r : Int × List (List (S77))) (h : laws_markValueSS.f k l0 a1 = some r) : r.2.length = l0.length := laws_markValueSS.len_l k _ _ _ _ h
set_option maxHeartbeats 8000000 in
set_option maxRecDepth 100000 in
theorem laws_markValueSS.calls (k : Nat) (P : Nat → Prop) (A : Option Addr) (n c : Nat) (l0 : List (List (S77))) (a1 : Int) (r1 : Int) (r2 : List (List (S77))) (w0 w : World) (hB : Below w0.heap.size w0 w) (ho0 : Kd.S (Kd.slice 77 k77) 33 w w0.heap.size P (.slice A n c) l0) (h : laws_markValueSS.f k l0 a1 = some (r1, r2)) :
    Calls Try.prog 17 #[.slice A n c, .int .i64 a1] w fun e w' => e = .returned (.int .i64 r1) ∧ Kd.S (Kd.slice 77 k77) 33 w' w0.heap.size P (.slice A n c) r2 ∧ Below w0.heap.size w0 w' ∧ Kept w w' P := by
  have hu24 := Try.underlying24
  have hu33 := Try.underlying33
  have HO := Aside0.mk ho0
  have HB := Aside0.mk hB
  have H' : Aside0 (laws_markValueSS.l0 k l0 a1 0 = some (r1, r2)) := ⟨h⟩
  have hn : n = l0.length := (Kd.S_reads' ho0).1
  have hbig : n ≤ 9223372036854775807 := by have := (Kd.S_reads' ho0).2.2.2.1; omega
  clear h hB ho0 hn
  go_enter Try.func17, Try.ntmps17
  go_wp2
  go_loopg [1, 5] k (fun kq s1 s5 w' => ∃ (x0 : List (List (S77))) (x1 x5 : Int), s1 = .int .i64 x1 ∧ s5 = .int .i64 x5 ∧ Aside0 (laws_markValueSS.l0 kq x0 x1 x5 = some (r1, r2)) ∧ Aside0 (kq ≤ k) ∧ Aside0 (Kd.S (Kd.slice 77 k77) 33 w' w0.heap.size P (.slice A n c) x0) ∧ Aside0 (Below w0.heap.size w0 w') ∧ Aside0 (Kept w w' P))
  case atStart => exact ⟨l0, a1, 0, rfl, rfl, H', ⟨Nat.le_refl _⟩, HO, HB, ⟨Kept.refl _ _⟩⟩
  case round =>
    obtain ⟨x0, x1, x5, rfl, rfl, HA, HK, HS, HBr, HKP⟩ := hrel
    cases gk with
    | zero => exact absurd HA.out (by simp [laws_markValueSS.l0])
    | succ k1 =>
      have H := HA.out
      rw [laws_markValueSS.l0] at H
      have hnx : n = x0.length := (Kd.S_reads' HS.out).1
      by_cases c1 : x5 < (x0.length : Int)
      · rw [if_pos c1] at H
        by_cases c2 : 0 ≤ x5
        case neg => rw [if_neg c2] at H; cases H
        rw [if_pos c2] at H
        obtain ⟨bt, hbt, H⟩ := Option.bind_eq_some_iff.mp H
        have HH := Aside0.mk H
        have c1n : x5 < (n : Int) := by omega
        have hlt : decide (x5 < (n : Int)) = true := decide_eq_true c1n
        have p0 := eq_true c2
        have p1 := eq_true c1n
        obtain ⟨g, cap, hv, _, _, _⟩ := Kd.S_form HS.out (by omega)
        injection hv with hA hn2 hc2
        subst hA
        subst hc2
        obtain ⟨oki, cs, hcl, hM, hcc, _, hoki, hHh⟩ := Kd.S_elem HS.out [] x5 c2 c1n
        obtain ⟨y, hy⟩ : ∃ y, x0.getD x5.toNat [] = y := ⟨_, rfl⟩
        rw [hy] at hM hbt
        obtain ⟨v, rfl, hRv⟩ := hM
        have l2 : wr.cell? ⟨g, x5.toNat, none⟩ = some v := by
          have h1 := hcc 0 _ rfl
          rw [show ((Kd.slice 77 k77)).sz = 1 from rfl, Nat.mul_one, Nat.add_zero] at h1
          exact h1
        obtain ⟨bt1, bt2⟩ := bt
        have HBT := Aside0.mk hbt
        have HRV := Aside0.mk hRv
        have HHH := Aside0.mk hHh
        obtain ⟨A9, c9, e9⟩ := Kd.R_slice hRv
        subst e9
        clear H hbt hcl hcc hoki hHh hRv c1 c2 c1n hn2 hnx hy
        go_wp2_with (go_at_call 54; (with_reducible refine (laws_markValueS.calls k1 oki _ _ x1 bt1 bt2 w0 _ HBr.out HRV.out HBT.out).mono ?_); rintro e w2 ⟨rfl, ho2, hb2, hk2⟩; have HO2 := Aside0.mk ho2; have HB2 := Aside0.mk hb2; have HK2 := Aside0.mk hk2; clear ho2 hb2 hk2)
        go_roundg k1
        case measure => have := HK.out; omega
        case rel =>
          have hR2 : Kd.R k77 77 w2 w0.heap.size oki (.slice A9 y.length c9) bt2 := Kd.R_mono (Kd.R_tight rfl HO2.out) (fun q hq => HRV.out.1 q hq.symm)
          have hH2 := Kd.H_kept HHH.out HK2.out (fun q _ hn hs => hn hs)
          have hoP : ∀ q, oki q → P q := by obtain ⟨ho, _⟩ := HHH.out; exact ho
          exact ⟨x0.set x5.toNat bt2, bt1, _, rfl, rfl, HH, ⟨by have := HK.out; omega⟩, ⟨Kd.H_back hH2 (Kd.M_row hR2) (fun _ hq => hq)⟩, HB2, ⟨HKP.out.then_ HK2.out (fun q hq => .inl (hoP q hq))⟩⟩
      · rw [if_neg c1] at H
        obtain ⟨rfl, rfl⟩ := Prod.mk.inj (Option.some.inj H)
        have hlt : decide (x5 < (n : Int)) = false := decide_eq_false (by omega)
        clear H hnx c1
        go_wp2
        go_ret
        exact ⟨rfl, HS.out, HBr.out, HKP.out⟩

def laws_FnExactRowsOnce.f (k : Nat) (l0 : List (List (S74))) : Option Bool := (laws_szValueSS.f k l0 1048576).bind fun z0 => (if z0 < 0 then some true else ((laws_toValueSS.f k l0).bind fun x0 => (spec_RowsOnce.f k x0).bind fun w0 => (impl_RowsOnce.f k x0).bind fun g0 => (laws_eqValueSS.f k g0 w0).bind fun e1 => (laws_eqValueSS.f k x0 x0).bind fun f0 => (laws_markValueSS.f k x0 1).bind fun m0 => (laws_markValueSS.f k g0 1).bind fun mg => (laws_heldValueSS.f k mg.2 1).bind fun q => (if e1 = true ∧ f0 = true ∧ ¬ m0.1 < 0 ∧ ¬ q < 0 ∧ q = mg.1 then some true else none)))
set_option maxHeartbeats 16000000 in
set_option maxRecDepth 100000 in
theorem laws_FnExactRowsOnce.calls (k : Nat) (A0 : Option Addr) (c0 : Nat) (l0 : List (List (S74))) (r : Bool) (w : World) (hr0 : Kd.C (Kd.slice 74 k74) w A0 l0.length l0) (hc0 : l0.length ≤ c0) (h : laws_FnExactRowsOnce.f k l0 = some r) :
    Calls Try.prog 7 #[.slice A0 l0.length c0] w fun e w' => e = .returned (.bool r) ∧ Below w.heap.size w w' := by
  have hu24 := Try.underlying24
  unfold laws_FnExactRowsOnce.f at h
  have HR0 := Aside0.mk hr0
  have HC0 := Aside0.mk hc0
  clear hr0 hc0
  have HB := Aside0.mk (Below.refl w.heap.size w)
  obtain ⟨z0, hh_, h⟩ := Option.bind_eq_some_iff.mp h
  have HZ0 := Aside0.mk hh_
  clear hh_
  by_cases cz0 : z0 < 0
  case pos =>
    rw [if_pos cz0] at h
    obtain rfl := Option.some.inj h
    have czb : decide (z0 < 0) = true := decide_eq_true cz0
    clear h cz0
    have ST0 := True.intro
    go_enter Try.func7, Try.ntmps7
    go_wp2_with (first | (have hck_ := ST0; clear hck_; go_at_call 12; (with_reducible refine (laws_szValueSS.calls k A0 c0 l0 1048576 z0 _ ?sidea HC0.out HZ0.out).mono ?_); (case sidea => exact Kd.C_below HR0.out HB.out); rintro e W1 ⟨rfl, hb⟩; have n_ := Aside0.mk (below_step HB.out hb); clear HB; have HB := n_; clear n_; have SZW1 := Aside0.mk (below_size hb); clear hb; have ST1 := True.intro))
    go_ret
    exact ⟨rfl, HB.out⟩
  rw [if_neg cz0] at h
  have cz0b : decide (z0 < 0) = false := decide_eq_false cz0
  clear cz0
  obtain ⟨x0, hh_, h⟩ := Option.bind_eq_some_iff.mp h
  have HX0 := Aside0.mk hh_
  clear hh_
  obtain ⟨w0, hh_, h⟩ := Option.bind_eq_some_iff.mp h
  have HW := Aside0.mk hh_
  clear hh_
  obtain ⟨g0, hh_, h⟩ := Option.bind_eq_some_iff.mp h
  have HG := Aside0.mk hh_
  clear hh_
  obtain ⟨e1, hh_, h⟩ := Option.bind_eq_some_iff.mp h
  have HE := Aside0.mk hh_
  clear hh_
  obtain ⟨f0, hh_, h⟩ := Option.bind_eq_some_iff.mp h
  have HF0 := Aside0.mk hh_
  clear hh_
  obtain ⟨⟨m0a, m0b⟩, hh_, h⟩ := Option.bind_eq_some_iff.mp h
  have HM0 := Aside0.mk hh_
  clear hh_
  obtain ⟨⟨mga, mgb⟩, hh_, h⟩ := Option.bind_eq_some_iff.mp h
  have HMG := Aside0.mk hh_
  clear hh_
  obtain ⟨q, hh_, h⟩ := Option.bind_eq_some_iff.mp h
  have HQ := Aside0.mk hh_
  clear hh_
  by_cases hcond : e1 = true ∧ f0 = true ∧ ¬ m0a < 0 ∧ ¬ q < 0 ∧ q = mga
  case neg => rw [if_neg (show ¬ (e1 = true ∧ f0 = true ∧ ¬ m0a < 0 ∧ ¬ q < 0 ∧ q = mga) from hcond)] at h; cases h
  rw [if_pos (show e1 = true ∧ f0 = true ∧ ¬ m0a < 0 ∧ ¬ q < 0 ∧ q = mga from hcond)] at h
  obtain rfl := Option.some.inj h
  obtain ⟨rfl, rfl, hm1, hq1, rfl⟩ := hcond
  have hm1b : decide (m0a < 0) = false := decide_eq_false hm1
  have hq1b : decide (q < 0) = false := decide_eq_false hq1
  have HLEN : Aside0 (mgb.length = g0.length) := ⟨laws_markValueSS.len k _ _ _ HMG.out⟩
  clear h hm1 hq1
  have ST0 := True.intro
  go_enter Try.func7, Try.ntmps7
  go_wp2_with (first | (have hck_ := ST15; clear hck_; go_at_call 18; (refine calls_of_args (args' := #[.slice Ag mgb.length cg, .int .i64 1]) (by rw [HLEN.out]) ?_); (with_reducible refine (laws_heldValueSS.calls k _ _ mgb 1 q _ ?sd ?se HQ.out).mono ?_); (case sd => exact by have h_ := (Kd.S_reads' HSg.out); exact h_.2.2); (case se => exact by have h_ := (Kd.S_reads' HSg.out); have l_ := h_.1; have m_ := h_.2.1; omega); rintro e W16 ⟨rfl, hb⟩; have n_ := Aside0.mk (Kd.S_below HSs0.out hb); clear HSs0; have HSs0 := n_; clear n_; have n_ := Aside0.mk (Kd.S_below HSw.out hb); clear HSw; have HSw := n_; clear n_; have n_ := Aside0.mk (Kd.S_below HSy0.out hb); clear HSy0; have HSy0 := n_; clear n_; have n_ := Aside0.mk (Kd.S_below HSg.out hb); clear HSg; have HSg := n_; clear n_; have n_ := Aside0.mk (Kd.S_below HSt0.out hb); clear HSt0; have HSt0 := n_; clear n_; have n_ := Aside0.mk (Kd.S_below HSb0.out hb); clear HSb0; have HSb0 := n_; clear n_; have n_ := Aside0.mk (Kd.S_below HSh.out hb); clear HSh; have HSh := n_; clear n_; have n_ := Aside0.mk (below_step HB.out hb); clear HB; have HB := n_; clear n_; have SZW16 := Aside0.mk (below_size hb); clear hb; have ST16 := True.intro) | (have hck_ := ST14; clear hck_; go_at_call 16; (with_reducible refine (laws_eqValueSS.calls k _ _ g0 _ _ w0 true _ ?sd ?se ?sf ?sg HE.out).mono ?_); (case sd => exact (Kd.S_reads' HSh.out).2.2); (case se => exact (Kd.S_reads' HSh.out).2.1); (case sf => exact (Kd.S_reads' HSw.out).2.2); (case sg => exact (Kd.S_reads' HSw.out).2.1); rintro e W15 ⟨rfl, hb⟩; have n_ := Aside0.mk (Kd.S_below HSs0.out hb); clear HSs0; have HSs0 := n_; clear n_; have n_ := Aside0.mk (Kd.S_below HSw.out hb); clear HSw; have HSw := n_; clear n_; have n_ := Aside0.mk (Kd.S_below HSy0.out hb); clear HSy0; have HSy0 := n_; clear n_; have n_ := Aside0.mk (Kd.S_below HSg.out hb); clear HSg; have HSg := n_; clear n_; have n_ := Aside0.mk (Kd.S_below HSt0.out hb); clear HSt0; have HSt0 := n_; clear n_; have n_ := Aside0.mk (Kd.S_below HSb0.out hb); clear HSb0; have HSb0 := n_; clear n_; have n_ := Aside0.mk (Kd.S_below HSh.out hb); clear HSh; have HSh := n_; clear n_; have n_ := Aside0.mk (below_step HB.out hb); clear HB; have HB := n_; clear n_; have SZW15 := Aside0.mk (below_size hb); clear hb; have ST15 := True.intro) | (have hck_ := ST13; clear hck_; go_at_call 27; (with_reducible refine (impl_RowsOnce.own k (fun _ => True) _ _ x0 g0 _ ?sc0 HG.out).mono ?_); (case sc0 => exact Kd.V_mk (Kd.S_reads' HSb0.out).2.1 (Kd.F_mono (Kd.S_F HSb0.out) (fun _ _ => trivial))); rintro e W14 ⟨vh, rfl, ho, hb⟩; have n_ := Aside0.mk (Kd.S_below HSs0.out hb); clear HSs0; have HSs0 := n_; clear n_; have n_ := Aside0.mk (Kd.S_below HSw.out hb); clear HSw; have HSw := n_; clear n_; have n_ := Aside0.mk (Kd.S_below HSy0.out hb); clear HSy0; have HSy0 := n_; clear n_; have n_ := Aside0.mk (Kd.S_below HSg.out hb); clear HSg; have HSg := n_; clear n_; have n_ := Aside0.mk (Kd.S_below HSt0.out hb); clear HSt0; have HSt0 := n_; clear n_; have n_ := Aside0.mk (Kd.S_below HSb0.out hb); clear HSb0; have HSb0 := n_; clear n_; have HSh := Aside0.mk (Kd.S_lower (Kd.S_mono (ok' := fun q_ => W13.heap.size ≤ q_ ∧ q_ < W14.heap.size) (Kd.S_bound ho) (fun q_ hq_ => ⟨hq_.2.1, hq_.2.2.1⟩)) (below_size HB.out)); obtain ⟨Ah, ch, eh⟩ := Kd.S_slice ho; subst eh; have n_ := Aside0.mk (below_step HB.out hb); clear HB; have HB := n_; clear n_; have SZW14 := Aside0.mk (below_size hb); clear hb ho; have ST14 := True.intro) | (have hck_ := ST12; clear hck_; go_at_call 14; (with_reducible refine (laws_toValueSS.calls k A0 c0 l0 x0 _ ?sidea HC0.out HX0.out).mono ?_); (case sidea => exact Kd.C_below HR0.out HB.out); rintro e W13 ⟨vb0, rfl, ho, hb⟩; have n_ := Aside0.mk (Kd.S_below HSs0.out hb); clear HSs0; have HSs0 := n_; clear n_; have n_ := Aside0.mk (Kd.S_below HSw.out hb); clear HSw; have HSw := n_; clear n_; have n_ := Aside0.mk (Kd.S_below HSy0.out hb); clear HSy0; have HSy0 := n_; clear n_; have n_ := Aside0.mk (Kd.S_below HSg.out hb); clear HSg; have HSg := n_; clear n_; have n_ := Aside0.mk (Kd.S_below HSt0.out hb); clear HSt0; have HSt0 := n_; clear n_; have HSb0 := Aside0.mk (Kd.S_lower (Kd.S_mono (ok' := fun q_ => W12.heap.size ≤ q_ ∧ q_ < W13.heap.size) (Kd.S_bound ho) (fun q_ hq_ => ⟨hq_.2.1, hq_.2.2.1⟩)) (below_size HB.out)); obtain ⟨Ab0, cb0, eb0⟩ := Kd.S_slice ho; subst eb0; have n_ := Aside0.mk (below_step HB.out hb); clear HB; have HB := n_; clear n_; have SZW13 := Aside0.mk (below_size hb); clear hb ho; have ST13 := True.intro) | (have hck_ := ST11; clear hck_; go_at_call 18; (refine calls_of_args (args' := #[.slice Ag mgb.length cg, .int .i64 1]) (by rw [HLEN.out]) ?_); (with_reducible refine (laws_heldValueSS.calls k _ _ mgb 1 q _ ?sd ?se HQ.out).mono ?_); (case sd => exact by have h_ := (Kd.S_reads' HSg.out); exact h_.2.2); (case se => exact by have h_ := (Kd.S_reads' HSg.out); have l_ := h_.1; have m_ := h_.2.1; omega); rintro e W12 ⟨rfl, hb⟩; have n_ := Aside0.mk (Kd.S_below HSs0.out hb); clear HSs0; have HSs0 := n_; clear n_; have n_ := Aside0.mk (Kd.S_below HSw.out hb); clear HSw; have HSw := n_; clear n_; have n_ := Aside0.mk (Kd.S_below HSy0.out hb); clear HSy0; have HSy0 := n_; clear n_; have n_ := Aside0.mk (Kd.S_below HSg.out hb); clear HSg; have HSg := n_; clear n_; have n_ := Aside0.mk (Kd.S_below HSt0.out hb); clear HSt0; have HSt0 := n_; clear n_; have n_ := Aside0.mk (below_step HB.out hb); clear HB; have HB := n_; clear n_; have SZW12 := Aside0.mk (below_size hb); clear hb; have ST12 := True.intro) | (have hck_ := ST10; clear hck_; go_at_call 17; (with_reducible refine (laws_markValueSS.calls k _ _ _ _ g0 1 q mgb w _ HB.out HSg.out HMG.out).mono ?_); rintro e W11 ⟨rfl, ho, hb, hk⟩; have n_ := Aside0.mk (Kd.S_kept HSs0.out hk (fun q_ h1_ h2_ => by have h3_ := h1_.1; have h4_ := h1_.2; have h5_ := h2_.1; have h6_ := h2_.2; have z0_ := SZW1.out; have z1_ := SZW2.out; have z2_ := SZW3.out; have z3_ := SZW4.out; have z4_ := SZW5.out; have z5_ := SZW6.out; have z6_ := SZW7.out; have z7_ := SZW8.out; have z8_ := SZW9.out; have z9_ := SZW10.out; omega)); clear HSs0; have HSs0 := n_; clear n_; have n_ := Aside0.mk (Kd.S_kept HSw.out hk (fun q_ h1_ h2_ => by have h3_ := h1_.1; have h4_ := h1_.2; have h5_ := h2_.1; have h6_ := h2_.2; have z0_ := SZW1.out; have z1_ := SZW2.out; have z2_ := SZW3.out; have z3_ := SZW4.out; have z4_ := SZW5.out; have z5_ := SZW6.out; have z6_ := SZW7.out; have z7_ := SZW8.out; have z8_ := SZW9.out; have z9_ := SZW10.out; omega)); clear HSw; have HSw := n_; clear n_; have n_ := Aside0.mk (Kd.S_kept HSy0.out hk (fun q_ h1_ h2_ => by have h3_ := h1_.1; have h4_ := h1_.2; have h5_ := h2_.1; have h6_ := h2_.2; have z0_ := SZW1.out; have z1_ := SZW2.out; have z2_ := SZW3.out; have z3_ := SZW4.out; have z4_ := SZW5.out; have z5_ := SZW6.out; have z6_ := SZW7.out; have z7_ := SZW8.out; have z8_ := SZW9.out; have z9_ := SZW10.out; omega)); clear HSy0; have HSy0 := n_; clear n_; have n_ := Aside0.mk (Kd.S_kept HSt0.out hk (fun q_ h1_ h2_ => by have h3_ := h1_.1; have h4_ := h1_.2; have h5_ := h2_.1; have h6_ := h2_.2; have z0_ := SZW1.out; have z1_ := SZW2.out; have z2_ := SZW3.out; have z3_ := SZW4.out; have z4_ := SZW5.out; have z5_ := SZW6.out; have z6_ := SZW7.out; have z7_ := SZW8.out; have z8_ := SZW9.out; have z9_ := SZW10.out; omega)); clear HSt0; have HSt0 := n_; clear n_; clear HSg HB; have HSg := Aside0.mk ho; have HB := Aside0.mk hb; have SZW11 := Aside0.mk hk.1; clear ho hb hk; have ST11 := True.intro) | (have hck_ := ST9; clear hck_; go_at_call 16; (with_reducible refine (laws_eqValueSS.calls k _ _ g0 _ _ w0 true _ ?sd ?se ?sf ?sg HE.out).mono ?_); (case sd => exact (Kd.S_reads' HSg.out).2.2); (case se => exact (Kd.S_reads' HSg.out).2.1); (case sf => exact (Kd.S_reads' HSw.out).2.2); (case sg => exact (Kd.S_reads' HSw.out).2.1); rintro e W10 ⟨rfl, hb⟩; have n_ := Aside0.mk (Kd.S_below HSs0.out hb); clear HSs0; have HSs0 := n_; clear n_; have n_ := Aside0.mk (Kd.S_below HSw.out hb); clear HSw; have HSw := n_; clear n_; have n_ := Aside0.mk (Kd.S_below HSy0.out hb); clear HSy0; have HSy0 := n_; clear n_; have n_ := Aside0.mk (Kd.S_below HSg.out hb); clear HSg; have HSg := n_; clear n_; have n_ := Aside0.mk (Kd.S_below HSt0.out hb); clear HSt0; have HSt0 := n_; clear n_; have n_ := Aside0.mk (below_step HB.out hb); clear HB; have HB := n_; clear n_; have SZW10 := Aside0.mk (below_size hb); clear hb; have ST10 := True.intro) | (have hck_ := ST8; clear hck_; go_at_call 17; (with_reducible refine (laws_markValueSS.calls k _ _ _ _ x0 1 m0a m0b w _ HB.out HSy0.out HM0.out).mono ?_); rintro e W9 ⟨rfl, ho, hb, hk⟩; have n_ := Aside0.mk (Kd.S_kept HSs0.out hk (fun q_ h1_ h2_ => by have h3_ := h1_.1; have h4_ := h1_.2; have h5_ := h2_.1; have h6_ := h2_.2; have z0_ := SZW1.out; have z1_ := SZW2.out; have z2_ := SZW3.out; have z3_ := SZW4.out; have z4_ := SZW5.out; have z5_ := SZW6.out; have z6_ := SZW7.out; have z7_ := SZW8.out; omega)); clear HSs0; have HSs0 := n_; clear n_; have n_ := Aside0.mk (Kd.S_kept HSw.out hk (fun q_ h1_ h2_ => by have h3_ := h1_.1; have h4_ := h1_.2; have h5_ := h2_.1; have h6_ := h2_.2; have z0_ := SZW1.out; have z1_ := SZW2.out; have z2_ := SZW3.out; have z3_ := SZW4.out; have z4_ := SZW5.out; have z5_ := SZW6.out; have z6_ := SZW7.out; have z7_ := SZW8.out; omega)); clear HSw; have HSw := n_; clear n_; have n_ := Aside0.mk (Kd.S_kept HSg.out hk (fun q_ h1_ h2_ => by have h3_ := h1_.1; have h4_ := h1_.2; have h5_ := h2_.1; have h6_ := h2_.2; have z0_ := SZW1.out; have z1_ := SZW2.out; have z2_ := SZW3.out; have z3_ := SZW4.out; have z4_ := SZW5.out; have z5_ := SZW6.out; have z6_ := SZW7.out; have z7_ := SZW8.out; omega)); clear HSg; have HSg := n_; clear n_; have n_ := Aside0.mk (Kd.S_kept HSt0.out hk (fun q_ h1_ h2_ => by have h3_ := h1_.1; have h4_ := h1_.2; have h5_ := h2_.1; have h6_ := h2_.2; have z0_ := SZW1.out; have z1_ := SZW2.out; have z2_ := SZW3.out; have z3_ := SZW4.out; have z4_ := SZW5.out; have z5_ := SZW6.out; have z6_ := SZW7.out; have z7_ := SZW8.out; omega)); clear HSt0; have HSt0 := n_; clear n_; clear HSy0 HB; have HSy0 := Aside0.mk ho; have HB := Aside0.mk hb; have SZW9 := Aside0.mk hk.1; clear ho hb hk; have ST9 := True.intro) | (have hck_ := ST7; clear hck_; go_at_call 16; (with_reducible refine (laws_eqValueSS.calls k _ _ x0 _ _ x0 true _ ?sd ?se ?sf ?sg HF0.out).mono ?_); (case sd => exact (Kd.S_reads' HSy0.out).2.2); (case se => exact (Kd.S_reads' HSy0.out).2.1); (case sf => exact (Kd.S_reads' HSt0.out).2.2); (case sg => exact (Kd.S_reads' HSt0.out).2.1); rintro e W8 ⟨rfl, hb⟩; have n_ := Aside0.mk (Kd.S_below HSs0.out hb); clear HSs0; have HSs0 := n_; clear n_; have n_ := Aside0.mk (Kd.S_below HSw.out hb); clear HSw; have HSw := n_; clear n_; have n_ := Aside0.mk (Kd.S_below HSy0.out hb); clear HSy0; have HSy0 := n_; clear n_; have n_ := Aside0.mk (Kd.S_below HSg.out hb); clear HSg; have HSg := n_; clear n_; have n_ := Aside0.mk (Kd.S_below HSt0.out hb); clear HSt0; have HSt0 := n_; clear n_; have n_ := Aside0.mk (below_step HB.out hb); clear HB; have HB := n_; clear n_; have SZW8 := Aside0.mk (below_size hb); clear hb; have ST8 := True.intro) | (have hck_ := ST6; clear hck_; go_at_call 14; (with_reducible refine (laws_toValueSS.calls k A0 c0 l0 x0 _ ?sidea HC0.out HX0.out).mono ?_); (case sidea => exact Kd.C_below HR0.out HB.out); rintro e W7 ⟨vt0, rfl, ho, hb⟩; have n_ := Aside0.mk (Kd.S_below HSs0.out hb); clear HSs0; have HSs0 := n_; clear n_; have n_ := Aside0.mk (Kd.S_below HSw.out hb); clear HSw; have HSw := n_; clear n_; have n_ := Aside0.mk (Kd.S_below HSy0.out hb); clear HSy0; have HSy0 := n_; clear n_; have n_ := Aside0.mk (Kd.S_below HSg.out hb); clear HSg; have HSg := n_; clear n_; have HSt0 := Aside0.mk (Kd.S_lower (Kd.S_mono (ok' := fun q_ => W6.heap.size ≤ q_ ∧ q_ < W7.heap.size) (Kd.S_bound ho) (fun q_ hq_ => ⟨hq_.2.1, hq_.2.2.1⟩)) (below_size HB.out)); obtain ⟨At0, ct0, et0⟩ := Kd.S_slice ho; subst et0; have n_ := Aside0.mk (below_step HB.out hb); clear HB; have HB := n_; clear n_; have SZW7 := Aside0.mk (below_size hb); clear hb ho; have ST7 := True.intro) | (have hck_ := ST5; clear hck_; go_at_call 16; (with_reducible refine (laws_eqValueSS.calls k _ _ g0 _ _ w0 true _ ?sd ?se ?sf ?sg HE.out).mono ?_); (case sd => exact (Kd.S_reads' HSg.out).2.2); (case se => exact (Kd.S_reads' HSg.out).2.1); (case sf => exact (Kd.S_reads' HSw.out).2.2); (case sg => exact (Kd.S_reads' HSw.out).2.1); rintro e W6 ⟨rfl, hb⟩; have n_ := Aside0.mk (Kd.S_below HSs0.out hb); clear HSs0; have HSs0 := n_; clear n_; have n_ := Aside0.mk (Kd.S_below HSw.out hb); clear HSw; have HSw := n_; clear n_; have n_ := Aside0.mk (Kd.S_below HSy0.out hb); clear HSy0; have HSy0 := n_; clear n_; have n_ := Aside0.mk (Kd.S_below HSg.out hb); clear HSg; have HSg := n_; clear n_; have n_ := Aside0.mk (below_step HB.out hb); clear HB; have HB := n_; clear n_; have SZW6 := Aside0.mk (below_size hb); clear hb; have ST6 := True.intro) | (have hck_ := ST4; clear hck_; go_at_call 27; (with_reducible refine (impl_RowsOnce.own k (fun _ => True) _ _ x0 g0 _ ?sc0 HG.out).mono ?_); (case sc0 => exact Kd.V_mk (Kd.S_reads' HSy0.out).2.1 (Kd.F_mono (Kd.S_F HSy0.out) (fun _ _ => trivial))); rintro e W5 ⟨vg, rfl, ho, hb⟩; have n_ := Aside0.mk (Kd.S_below HSs0.out hb); clear HSs0; have HSs0 := n_; clear n_; have n_ := Aside0.mk (Kd.S_below HSw.out hb); clear HSw; have HSw := n_; clear n_; have n_ := Aside0.mk (Kd.S_below HSy0.out hb); clear HSy0; have HSy0 := n_; clear n_; have HSg := Aside0.mk (Kd.S_lower (Kd.S_mono (ok' := fun q_ => W4.heap.size ≤ q_ ∧ q_ < W5.heap.size) (Kd.S_bound ho) (fun q_ hq_ => ⟨hq_.2.1, hq_.2.2.1⟩)) (below_size HB.out)); obtain ⟨Ag, cg, eg⟩ := Kd.S_slice ho; subst eg; have n_ := Aside0.mk (below_step HB.out hb); clear HB; have HB := n_; clear n_; have SZW5 := Aside0.mk (below_size hb); clear hb ho; have ST5 := True.intro) | (have hck_ := ST3; clear hck_; go_at_call 14; (with_reducible refine (laws_toValueSS.calls k A0 c0 l0 x0 _ ?sidea HC0.out HX0.out).mono ?_); (case sidea => exact Kd.C_below HR0.out HB.out); rintro e W4 ⟨vy0, rfl, ho, hb⟩; have n_ := Aside0.mk (Kd.S_below HSs0.out hb); clear HSs0; have HSs0 := n_; clear n_; have n_ := Aside0.mk (Kd.S_below HSw.out hb); clear HSw; have HSw := n_; clear n_; have HSy0 := Aside0.mk (Kd.S_lower (Kd.S_mono (ok' := fun q_ => W3.heap.size ≤ q_ ∧ q_ < W4.heap.size) (Kd.S_bound ho) (fun q_ hq_ => ⟨hq_.2.1, hq_.2.2.1⟩)) (below_size HB.out)); obtain ⟨Ay0, cy0, ey0⟩ := Kd.S_slice ho; subst ey0; have n_ := Aside0.mk (below_step HB.out hb); clear HB; have HB := n_; clear n_; have SZW4 := Aside0.mk (below_size hb); clear hb ho; have ST4 := True.intro) | (have hck_ := ST2; clear hck_; go_at_call 29; (with_reducible refine (spec_RowsOnce.calls k _ _ x0 w0 _ ?sa0 ?sb0 HW.out).mono ?_); (case sa0 => exact (Kd.S_reads' HSs0.out).2.2); (case sb0 => exact (Kd.S_reads' HSs0.out).2.1); rintro e W3 ⟨vw, rfl, ho, hb⟩; have n_ := Aside0.mk (Kd.S_below HSs0.out hb); clear HSs0; have HSs0 := n_; clear n_; have HSw := Aside0.mk (Kd.S_lower (Kd.S_mono (ok' := fun q_ => W2.heap.size ≤ q_ ∧ q_ < W3.heap.size) (Kd.S_bound ho) (fun q_ hq_ => ⟨hq_.2.1, hq_.2.2.1⟩)) (below_size HB.out)); obtain ⟨Aw, cw, ew⟩ := Kd.S_slice ho; subst ew; have n_ := Aside0.mk (below_step HB.out hb); clear HB; have HB := n_; clear n_; have SZW3 := Aside0.mk (below_size hb); clear hb ho; have ST3 := True.intro) | (have hck_ := ST1; clear hck_; go_at_call 14; (with_reducible refine (laws_toValueSS.calls k A0 c0 l0 x0 _ ?sidea HC0.out HX0.out).mono ?_); (case sidea => exact Kd.C_below HR0.out HB.out); rintro e W2 ⟨vs0, rfl, ho, hb⟩; have HSs0 := Aside0.mk (Kd.S_lower (Kd.S_mono (ok' := fun q_ => W1.heap.size ≤ q_ ∧ q_ < W2.heap.size) (Kd.S_bound ho) (fun q_ hq_ => ⟨hq_.2.1, hq_.2.2.1⟩)) (below_size HB.out)); obtain ⟨As0, cs0, es0⟩ := Kd.S_slice ho; subst es0; have n_ := Aside0.mk (below_step HB.out hb); clear HB; have HB := n_; clear n_; have SZW2 := Aside0.mk (below_size hb); clear hb ho; have ST2 := True.intro) | (have hck_ := ST0; clear hck_; go_at_call 12; (with_reducible refine (laws_szValueSS.calls k A0 c0 l0 1048576 z0 _ ?sidea HC0.out HZ0.out).mono ?_); (case sidea => exact Kd.C_below HR0.out HB.out); rintro e W1 ⟨rfl, hb⟩; have n_ := Aside0.mk (below_step HB.out hb); clear HB; have HB := n_; clear n_; have SZW1 := Aside0.mk (below_size hb); clear hb; have ST1 := True.intro))
  go_ret
  exact ⟨rfl, HB.out⟩

/-- THE ONE PURE STATEMENT of laws_FnExactRowsOnce. -/
def laws_FnExactRowsOnce.Pure : Prop := ∀ (l0 : List (List (S74))), ((l0.length ≤ maxLen ∧ ∀ y2_ ∈ l0, (y2_.length ≤ maxLen ∧ ∀ y4_ ∈ y2_, ((Lit.int .i64 y4_.f0).wf = true ∧ ((Lit.int .i64 y4_.f1).wf = true ∧ (y4_.f2.size ≤ maxLen)))))) → ∃ k, laws_FnExactRowsOnce.f k l0 = some true
end

end Go.Proofs.Ytikjhhjmdknhiaa.X
