/- Plain functions for the Go functions of this seat, and proofs that each call answers as its plain function does; made by this session's program over the kit's printer. -/
import Derived.Test.YtalhkihppcjanaaX0
import Derived.Test.YtalhkihppcjanaaZFnExactHouseNew4
namespace Go.Proofs.Ytalhkihppcjanaa.X
open Go.RowKit Go.Proofs.YtalhkihppcjanaaV.PrintWords Go.Proofs.YtalhkihppcjanaaV.PrintLast Go.Proofs.YtalhkihppcjanaaV.PrintMore
attribute [local go_sem] max2_int min2_int max_two min_two max_three min_three max_four min_four   -- for this text's walks alone
set_option linter.unusedVariables false
set_option linter.unusedSimpArgs false

section
/-! ### laws_heldTxnS: function 45 -/
def laws_heldTxnS.l0 : Nat → List (S70) → Int → Int → Option (Int)
  | 0, _, _, _ => none
  | k + 1, x0, x1, x5 => if x5 < (x0.length : Int) then (if 0 ≤ x5 then (if ((rd_T70 x0 x5).f0) = x1 then (if ((rd_T70 x0 x5).f1) = (wrap64 (x1 + 1)) then (if ((rd_T70 x0 x5).f2) = (wrap64 ((wrap64 (x1 + 1)) + 1)) then ((laws_heldIntS.f k ((rd_T70 x0 x5).f3) (wrap64 ((wrap64 ((wrap64 (x1 + 1)) + 1)) + 1))).bind fun t274 => (if t274 < 0 then (some (-1)) else ((laws_heldWriteS.f k ((rd_T70 x0 x5).f4) t274).bind fun t276 => (if t276 < 0 then (some (-1)) else (laws_heldTxnS.l0 k x0 t276 (wrap64 (x5 + 1))))))) else (some (-1))) else (some (-1))) else (some (-1))) else (none)) else (some x1)
def laws_heldTxnS.f (k : Nat) (l0 : List (S70)) (a1 : Int) : Option (Int) := laws_heldTxnS.l0 k l0 a1 0
theorem laws_heldTxnS.mono_l : ∀ k, (∀ y0 y1 y2, LeO (laws_heldTxnS.l0 k y0 y1 y2) (laws_heldTxnS.l0 (k + 1) y0 y1 y2))
  | 0 => fun _ _ _ r h => by simp [laws_heldTxnS.l0] at h
  | k + 1 => by
    have ih0 := laws_heldTxnS.mono_l k
    · intro y0 y1 y2
      unfold laws_heldTxnS.l0
      repeat' first
      | (with_reducible exact ih0 _ _ _)
      | (with_reducible exact laws_heldIntS.mono _ _ _)
      | (with_reducible exact laws_heldWriteS.mono _ _ _)
      | (with_reducible exact LeO.refl _)
      | (with_reducible exact LeO.none _)
      | (with_reducible refine LeO.ite ?_ ?_)
      | (with_reducible refine LeO.bind ?_ (fun _ => ?_))
      | exact ih0 _ _ _
      | exact laws_heldIntS.mono _ _ _
      | exact laws_heldWriteS.mono _ _ _
      | exact LeO.none _
      | refine LeO.ite ?_ ?_
      | refine LeO.bind ?_ (fun _ => ?_)
theorem laws_heldTxnS.mono : ∀ a0 a1 k, LeO (laws_heldTxnS.f k a0 a1) (laws_heldTxnS.f (k + 1) a0 a1) := by
  intro a0 a1 k
  have ih0 := laws_heldTxnS.mono_l k
  unfold laws_heldTxnS.f
  repeat' first
      | (with_reducible exact ih0 _ _ _)
      | (with_reducible exact laws_heldIntS.mono _ _ _)
      | (with_reducible exact laws_heldWriteS.mono _ _ _)
      | (with_reducible exact LeO.refl _)
      | (with_reducible exact LeO.none _)
      | (with_reducible refine LeO.ite ?_ ?_)
      | (with_reducible refine LeO.bind ?_ (fun _ => ?_))
      | exact ih0 _ _ _
      | exact laws_heldIntS.mono _ _ _
      | exact laws_heldWriteS.mono _ _ _
      | exact LeO.none _
      | refine LeO.ite ?_ ?_
      | refine LeO.bind ?_ (fun _ => ?_)
set_option maxHeartbeats 8000000 in
set_option maxRecDepth 100000 in
theorem laws_heldTxnS.calls (k : Nat) (A0 : Option Addr) (c0 : Nat) (l0 : List (S70)) (a1 : Int) (r : Int) (w : World) (hr0 : Kd.C k70 w A0 l0.length l0) (hc0 : l0.length ≤ c0) (h : laws_heldTxnS.f k l0 a1 = some r) :
    Calls Try.prog 45 #[.slice A0 l0.length c0, .int .i64 a1] w fun e w' => e = .returned (.int .i64 r) ∧ Below w.heap.size w w' := by
  have HR0 := Aside0.mk hr0
  have HC0 := Aside0.mk hc0
  clear hr0 hc0
  have HB := Aside0.mk (Below.refl w.heap.size w)
  have H : (laws_heldTxnS.l0 k l0 a1 0) = some r := h
  clear h
  have H' := Aside0.mk H
  clear H
  go_enter Try.func45, Try.ntmps45
  go_wp2
  go_loopg [1, 5] k (fun kq v1 v5 w' => ∃ (x1_1 : Int) (x5_1 : Int), v1 = .int .i64 x1_1 ∧ v5 = .int .i64 x5_1 ∧ Aside0 (laws_heldTxnS.l0 kq l0 x1_1 x5_1 = some r) ∧ Aside0 (kq ≤ k) ∧ Aside0 (Below w.heap.size w w'))
  case atStart => exact ⟨(a1), (0), (by first | rfl | (simp; done) | (simp [*]; done)), (by first | rfl | (simp; done) | (simp [*]; done)), H', ⟨Nat.le_refl _⟩, ⟨by repeat (first | (with_reducible first | exact HB.out | apply below_alloc | apply pw_below_drewN | apply below_drew1) | exact HB.out)⟩⟩
  case round =>
    clear H'
    try clear p2
    obtain ⟨x1_1, x5_1, rfl, rfl, HA, HK1, HB⟩ := hrel
    cases gk with
    | zero => exact absurd HA.out (by simp [laws_heldTxnS.l0])
    | succ k1 =>
      have H := HA.out
      clear HA
      simp only [laws_heldTxnS.l0] at H
      by_cases c3 : x5_1 < (l0.length : Int)
      · rw [if_pos c3] at H
        have c3b0 : decide (x5_1 < (l0.length : Int)) = true := decide_eq_true c3
        clear c3
        by_cases c4 : 0 ≤ x5_1
        · rw [if_pos c4] at H
          have c4b0 : decide (0 ≤ x5_1) = true := decide_eq_true c4
          clear c4
          by_cases c5 : ((rd_T70 l0 x5_1).f0) = x1_1
          · rw [if_pos c5] at H
            have c5b0 : (((rd_T70 l0 x5_1).f0) == x1_1) = true := beq_iff_eq.mpr c5
            have c5b1 : (((rd_T70 l0 x5_1).f0) != x1_1) = false := bne_eq_false_iff_eq.mpr c5
            clear c5
            by_cases c6 : ((rd_T70 l0 x5_1).f1) = (wrap64 (x1_1 + 1))
            · rw [if_pos c6] at H
              have c6b0 : (((rd_T70 l0 x5_1).f1) == (wrap64 (x1_1 + 1))) = true := beq_iff_eq.mpr c6
              have c6b1 : (((rd_T70 l0 x5_1).f1) != (wrap64 (x1_1 + 1))) = false := bne_eq_false_iff_eq.mpr c6
              clear c6
              by_cases c7 : ((rd_T70 l0 x5_1).f2) = (wrap64 ((wrap64 (x1_1 + 1)) + 1))
              · rw [if_pos c7] at H
                have c7b0 : (((rd_T70 l0 x5_1).f2) == (wrap64 ((wrap64 (x1_1 + 1)) + 1))) = true := beq_iff_eq.mpr c7
                have c7b1 : (((rd_T70 l0 x5_1).f2) != (wrap64 ((wrap64 (x1_1 + 1)) + 1))) = false := bne_eq_false_iff_eq.mpr c7
                clear c7
                replace H := Option.bind_eq_some_iff.mp H
                obtain ⟨t274, A80, H⟩ := H
                replace H : (if t274 < 0 then (some (-1)) else ((laws_heldWriteS.f k1 ((rd_T70 l0 x5_1).f4) t274).bind fun t276 => (if t276 < 0 then (some (-1)) else (laws_heldTxnS.l0 k1 l0 t276 (wrap64 (x5_1 + 1)))))) = some r := H
                have A8 := Aside0.mk A80
                clear A80
                by_cases c9 : t274 < 0
                · rw [if_pos c9] at H
                  have c9b0 : decide (t274 < 0) = true := decide_eq_true c9
                  clear c9
                  obtain rfl := Option.some.inj H
                  have p270 : 0 ≤ (x5_1 : Int) := of_decide_eq_true (by first | (with_reducible assumption) | assumption)
                  have q270 : x5_1 < (l0.length : Int) := of_decide_eq_true (by first | (with_reducible assumption) | assumption)
                  obtain ⟨ad270, A270_3, c270_3, A270_4, c270_4, e270, hx270_0, hx270_1, hx270_2, hx270_3, hx270_4, hl270_3, hi270_3, hl270_4, hi270_4⟩ := at_T70 HR0.out x5_1 p270 q270
                  cases e270
                  replace hx270_0 := (HB.out.cell (World.block_lt_of_cell? w _ hx270_0)).trans hx270_0
                  replace hx270_1 := (HB.out.cell (World.block_lt_of_cell? w _ hx270_1)).trans hx270_1
                  replace hx270_2 := (HB.out.cell (World.block_lt_of_cell? w _ hx270_2)).trans hx270_2
                  replace hx270_3 := (HB.out.cell (World.block_lt_of_cell? w _ hx270_3)).trans hx270_3
                  replace hx270_4 := (HB.out.cell (World.block_lt_of_cell? w _ hx270_4)).trans hx270_4
                  have HR270_3 := Aside0.mk hi270_3
                  have HC270_3 := Aside0.mk hl270_3
                  clear hi270_3 hl270_3
                  have HR270_4 := Aside0.mk hi270_4
                  have HC270_4 := Aside0.mk hl270_4
                  clear hi270_4 hl270_4
                  replace p270 := eq_true p270
                  replace q270 := eq_true q270
                  have p271 : 0 ≤ (x5_1 : Int) := of_decide_eq_true (by first | (with_reducible assumption) | assumption)
                  have q271 : x5_1 < (l0.length : Int) := of_decide_eq_true (by first | (with_reducible assumption) | assumption)
                  obtain ⟨ad271, A271_3, c271_3, A271_4, c271_4, e271, hx271_0, hx271_1, hx271_2, hx271_3, hx271_4, hl271_3, hi271_3, hl271_4, hi271_4⟩ := at_T70 HR0.out x5_1 p271 q271
                  obtain rfl : ad270 = ad271 := (by injection e271)
                  replace hx271_0 := (HB.out.cell (World.block_lt_of_cell? w _ hx271_0)).trans hx271_0
                  replace hx271_1 := (HB.out.cell (World.block_lt_of_cell? w _ hx271_1)).trans hx271_1
                  replace hx271_2 := (HB.out.cell (World.block_lt_of_cell? w _ hx271_2)).trans hx271_2
                  replace hx271_3 := (HB.out.cell (World.block_lt_of_cell? w _ hx271_3)).trans hx271_3
                  replace hx271_4 := (HB.out.cell (World.block_lt_of_cell? w _ hx271_4)).trans hx271_4
                  have HR271_3 := Aside0.mk hi271_3
                  have HC271_3 := Aside0.mk hl271_3
                  clear hi271_3 hl271_3
                  have HR271_4 := Aside0.mk hi271_4
                  have HC271_4 := Aside0.mk hl271_4
                  clear hi271_4 hl271_4
                  replace p271 := eq_true p271
                  replace q271 := eq_true q271
                  have ea_ := Option.some.inj (hx270_3.symm.trans hx271_3)
                  injection ea_ with ea_ en_ ec_
                  subst ea_
                  subst ec_
                  clear en_
                  have ea_ := Option.some.inj (hx270_4.symm.trans hx271_4)
                  injection ea_ with ea_ en_ ec_
                  subst ea_
                  subst ec_
                  clear en_
                  have p272 : 0 ≤ (x5_1 : Int) := of_decide_eq_true (by first | (with_reducible assumption) | assumption)
                  have q272 : x5_1 < (l0.length : Int) := of_decide_eq_true (by first | (with_reducible assumption) | assumption)
                  obtain ⟨ad272, A272_3, c272_3, A272_4, c272_4, e272, hx272_0, hx272_1, hx272_2, hx272_3, hx272_4, hl272_3, hi272_3, hl272_4, hi272_4⟩ := at_T70 HR0.out x5_1 p272 q272
                  obtain rfl : ad270 = ad272 := (by injection e272)
                  replace hx272_0 := (HB.out.cell (World.block_lt_of_cell? w _ hx272_0)).trans hx272_0
                  replace hx272_1 := (HB.out.cell (World.block_lt_of_cell? w _ hx272_1)).trans hx272_1
                  replace hx272_2 := (HB.out.cell (World.block_lt_of_cell? w _ hx272_2)).trans hx272_2
                  replace hx272_3 := (HB.out.cell (World.block_lt_of_cell? w _ hx272_3)).trans hx272_3
                  replace hx272_4 := (HB.out.cell (World.block_lt_of_cell? w _ hx272_4)).trans hx272_4
                  have HR272_3 := Aside0.mk hi272_3
                  have HC272_3 := Aside0.mk hl272_3
                  clear hi272_3 hl272_3
                  have HR272_4 := Aside0.mk hi272_4
                  have HC272_4 := Aside0.mk hl272_4
                  clear hi272_4 hl272_4
                  replace p272 := eq_true p272
                  replace q272 := eq_true q272
                  have ea_ := Option.some.inj (hx270_3.symm.trans hx272_3)
                  injection ea_ with ea_ en_ ec_
                  subst ea_
                  subst ec_
                  clear en_
                  have ea_ := Option.some.inj (hx270_4.symm.trans hx272_4)
                  injection ea_ with ea_ en_ ec_
                  subst ea_
                  subst ec_
                  clear en_
                  have p273 : 0 ≤ (x5_1 : Int) := of_decide_eq_true (by first | (with_reducible assumption) | assumption)
                  have q273 : x5_1 < (l0.length : Int) := of_decide_eq_true (by first | (with_reducible assumption) | assumption)
                  obtain ⟨ad273, A273_3, c273_3, A273_4, c273_4, e273, hx273_0, hx273_1, hx273_2, hx273_3, hx273_4, hl273_3, hi273_3, hl273_4, hi273_4⟩ := at_T70 HR0.out x5_1 p273 q273
                  obtain rfl : ad270 = ad273 := (by injection e273)
                  replace hx273_0 := (HB.out.cell (World.block_lt_of_cell? w _ hx273_0)).trans hx273_0
                  replace hx273_1 := (HB.out.cell (World.block_lt_of_cell? w _ hx273_1)).trans hx273_1
                  replace hx273_2 := (HB.out.cell (World.block_lt_of_cell? w _ hx273_2)).trans hx273_2
                  replace hx273_3 := (HB.out.cell (World.block_lt_of_cell? w _ hx273_3)).trans hx273_3
                  replace hx273_4 := (HB.out.cell (World.block_lt_of_cell? w _ hx273_4)).trans hx273_4
                  have HR273_3 := Aside0.mk hi273_3
                  have HC273_3 := Aside0.mk hl273_3
                  clear hi273_3 hl273_3
                  have HR273_4 := Aside0.mk hi273_4
                  have HC273_4 := Aside0.mk hl273_4
                  clear hi273_4 hl273_4
                  replace p273 := eq_true p273
                  replace q273 := eq_true q273
                  have ea_ := Option.some.inj (hx270_3.symm.trans hx273_3)
                  injection ea_ with ea_ en_ ec_
                  subst ea_
                  subst ec_
                  clear en_
                  have ea_ := Option.some.inj (hx270_4.symm.trans hx273_4)
                  injection ea_ with ea_ en_ ec_
                  subst ea_
                  subst ec_
                  clear en_
                  go_wp2_with (first | ((with_reducible refine gate_callee (f := 13) rfl ?_); refine goesL_ (some 45) rfl rfl Try.func13 (by kernel_rfl) rfl #[.slice A270_3 ((rd_T70 l0 x5_1).f3).length c270_3, .int .i64 (wrap64 ((wrap64 ((wrap64 (x1_1 + 1)) + 1)) + 1))] rfl (by (try simp only [List.map_toArray, List.map_cons, List.map_nil]); first | done | rfl | (simp only [List.length_drop, List.length_take]; rfl)) ?_; (with_reducible refine (laws_heldIntS.calls k1 _ _ ((rd_T70 l0 x5_1).f3) (wrap64 ((wrap64 ((wrap64 (x1_1 + 1)) + 1)) + 1)) t274 _ ?side1 ?side2 A8.out).mono ?_); (case side1 => repeat (first | exact (Kd.C_below HR273_3.out HB.out) | (with_reducible refine Kd.C_alloc ?_ _) | (with_reducible refine Kd.C_drewN ?_ _) | (with_reducible refine Kd.C_drew ?_))); (case side2 => exact HC273_3.out); rintro e w' ⟨rfl, ⟨nd, rfl⟩⟩; refine ⟨_, rfl, ?_⟩))
                  go_ret
                  exact ⟨by first | rfl | (simp [errW_none, errW_some] <;> rfl) | (simp [*, errW_none, errW_some] <;> rfl), by repeat (first | (with_reducible first | exact HB.out | apply below_alloc | apply pw_below_drewN | apply below_drew1) | exact HB.out)⟩
                · rw [if_neg c9] at H
                  have c9b0 : decide (t274 < 0) = false := decide_eq_false c9
                  clear c9
                  replace H := Option.bind_eq_some_iff.mp H
                  obtain ⟨t276, A100, H⟩ := H
                  replace H : (if t276 < 0 then (some (-1)) else (laws_heldTxnS.l0 k1 l0 t276 (wrap64 (x5_1 + 1)))) = some r := H
                  have A10 := Aside0.mk A100
                  clear A100
                  by_cases c11 : t276 < 0
                  · rw [if_pos c11] at H
                    have c11b0 : decide (t276 < 0) = true := decide_eq_true c11
                    clear c11
                    obtain rfl := Option.some.inj H
                    have p270 : 0 ≤ (x5_1 : Int) := of_decide_eq_true (by first | (with_reducible assumption) | assumption)
                    have q270 : x5_1 < (l0.length : Int) := of_decide_eq_true (by first | (with_reducible assumption) | assumption)
                    obtain ⟨ad270, A270_3, c270_3, A270_4, c270_4, e270, hx270_0, hx270_1, hx270_2, hx270_3, hx270_4, hl270_3, hi270_3, hl270_4, hi270_4⟩ := at_T70 HR0.out x5_1 p270 q270
                    cases e270
                    replace hx270_0 := (HB.out.cell (World.block_lt_of_cell? w _ hx270_0)).trans hx270_0
                    replace hx270_1 := (HB.out.cell (World.block_lt_of_cell? w _ hx270_1)).trans hx270_1
                    replace hx270_2 := (HB.out.cell (World.block_lt_of_cell? w _ hx270_2)).trans hx270_2
                    replace hx270_3 := (HB.out.cell (World.block_lt_of_cell? w _ hx270_3)).trans hx270_3
                    replace hx270_4 := (HB.out.cell (World.block_lt_of_cell? w _ hx270_4)).trans hx270_4
                    have HR270_3 := Aside0.mk hi270_3
                    have HC270_3 := Aside0.mk hl270_3
                    clear hi270_3 hl270_3
                    have HR270_4 := Aside0.mk hi270_4
                    have HC270_4 := Aside0.mk hl270_4
                    clear hi270_4 hl270_4
                    replace p270 := eq_true p270
                    replace q270 := eq_true q270
                    have p271 : 0 ≤ (x5_1 : Int) := of_decide_eq_true (by first | (with_reducible assumption) | assumption)
                    have q271 : x5_1 < (l0.length : Int) := of_decide_eq_true (by first | (with_reducible assumption) | assumption)
                    obtain ⟨ad271, A271_3, c271_3, A271_4, c271_4, e271, hx271_0, hx271_1, hx271_2, hx271_3, hx271_4, hl271_3, hi271_3, hl271_4, hi271_4⟩ := at_T70 HR0.out x5_1 p271 q271
                    obtain rfl : ad270 = ad271 := (by injection e271)
                    replace hx271_0 := (HB.out.cell (World.block_lt_of_cell? w _ hx271_0)).trans hx271_0
                    replace hx271_1 := (HB.out.cell (World.block_lt_of_cell? w _ hx271_1)).trans hx271_1
                    replace hx271_2 := (HB.out.cell (World.block_lt_of_cell? w _ hx271_2)).trans hx271_2
                    replace hx271_3 := (HB.out.cell (World.block_lt_of_cell? w _ hx271_3)).trans hx271_3
                    replace hx271_4 := (HB.out.cell (World.block_lt_of_cell? w _ hx271_4)).trans hx271_4
                    have HR271_3 := Aside0.mk hi271_3
                    have HC271_3 := Aside0.mk hl271_3
                    clear hi271_3 hl271_3
                    have HR271_4 := Aside0.mk hi271_4
                    have HC271_4 := Aside0.mk hl271_4
                    clear hi271_4 hl271_4
                    replace p271 := eq_true p271
                    replace q271 := eq_true q271
                    have ea_ := Option.some.inj (hx270_3.symm.trans hx271_3)
                    injection ea_ with ea_ en_ ec_
                    subst ea_
                    subst ec_
                    clear en_
                    have ea_ := Option.some.inj (hx270_4.symm.trans hx271_4)
                    injection ea_ with ea_ en_ ec_
                    subst ea_
                    subst ec_
                    clear en_
                    have p272 : 0 ≤ (x5_1 : Int) := of_decide_eq_true (by first | (with_reducible assumption) | assumption)
                    have q272 : x5_1 < (l0.length : Int) := of_decide_eq_true (by first | (with_reducible assumption) | assumption)
                    obtain ⟨ad272, A272_3, c272_3, A272_4, c272_4, e272, hx272_0, hx272_1, hx272_2, hx272_3, hx272_4, hl272_3, hi272_3, hl272_4, hi272_4⟩ := at_T70 HR0.out x5_1 p272 q272
                    obtain rfl : ad270 = ad272 := (by injection e272)
                    replace hx272_0 := (HB.out.cell (World.block_lt_of_cell? w _ hx272_0)).trans hx272_0
                    replace hx272_1 := (HB.out.cell (World.block_lt_of_cell? w _ hx272_1)).trans hx272_1
                    replace hx272_2 := (HB.out.cell (World.block_lt_of_cell? w _ hx272_2)).trans hx272_2
                    replace hx272_3 := (HB.out.cell (World.block_lt_of_cell? w _ hx272_3)).trans hx272_3
                    replace hx272_4 := (HB.out.cell (World.block_lt_of_cell? w _ hx272_4)).trans hx272_4
                    have HR272_3 := Aside0.mk hi272_3
                    have HC272_3 := Aside0.mk hl272_3
                    clear hi272_3 hl272_3
                    have HR272_4 := Aside0.mk hi272_4
                    have HC272_4 := Aside0.mk hl272_4
                    clear hi272_4 hl272_4
                    replace p272 := eq_true p272
                    replace q272 := eq_true q272
                    have ea_ := Option.some.inj (hx270_3.symm.trans hx272_3)
                    injection ea_ with ea_ en_ ec_
                    subst ea_
                    subst ec_
                    clear en_
                    have ea_ := Option.some.inj (hx270_4.symm.trans hx272_4)
                    injection ea_ with ea_ en_ ec_
                    subst ea_
                    subst ec_
                    clear en_
                    have p273 : 0 ≤ (x5_1 : Int) := of_decide_eq_true (by first | (with_reducible assumption) | assumption)
                    have q273 : x5_1 < (l0.length : Int) := of_decide_eq_true (by first | (with_reducible assumption) | assumption)
                    obtain ⟨ad273, A273_3, c273_3, A273_4, c273_4, e273, hx273_0, hx273_1, hx273_2, hx273_3, hx273_4, hl273_3, hi273_3, hl273_4, hi273_4⟩ := at_T70 HR0.out x5_1 p273 q273
                    obtain rfl : ad270 = ad273 := (by injection e273)
                    replace hx273_0 := (HB.out.cell (World.block_lt_of_cell? w _ hx273_0)).trans hx273_0
                    replace hx273_1 := (HB.out.cell (World.block_lt_of_cell? w _ hx273_1)).trans hx273_1
                    replace hx273_2 := (HB.out.cell (World.block_lt_of_cell? w _ hx273_2)).trans hx273_2
                    replace hx273_3 := (HB.out.cell (World.block_lt_of_cell? w _ hx273_3)).trans hx273_3
                    replace hx273_4 := (HB.out.cell (World.block_lt_of_cell? w _ hx273_4)).trans hx273_4
                    have HR273_3 := Aside0.mk hi273_3
                    have HC273_3 := Aside0.mk hl273_3
                    clear hi273_3 hl273_3
                    have HR273_4 := Aside0.mk hi273_4
                    have HC273_4 := Aside0.mk hl273_4
                    clear hi273_4 hl273_4
                    replace p273 := eq_true p273
                    replace q273 := eq_true q273
                    have ea_ := Option.some.inj (hx270_3.symm.trans hx273_3)
                    injection ea_ with ea_ en_ ec_
                    subst ea_
                    subst ec_
                    clear en_
                    have ea_ := Option.some.inj (hx270_4.symm.trans hx273_4)
                    injection ea_ with ea_ en_ ec_
                    subst ea_
                    subst ec_
                    clear en_
                    go_wp2_with (first | ((with_reducible refine gate_callee (f := 13) rfl ?_); refine goesL_ (some 45) rfl rfl Try.func13 (by kernel_rfl) rfl #[.slice A270_3 ((rd_T70 l0 x5_1).f3).length c270_3, .int .i64 (wrap64 ((wrap64 ((wrap64 (x1_1 + 1)) + 1)) + 1))] rfl (by (try simp only [List.map_toArray, List.map_cons, List.map_nil]); first | done | rfl | (simp only [List.length_drop, List.length_take]; rfl)) ?_; (with_reducible refine (laws_heldIntS.calls k1 _ _ ((rd_T70 l0 x5_1).f3) (wrap64 ((wrap64 ((wrap64 (x1_1 + 1)) + 1)) + 1)) t274 _ ?side1 ?side2 A8.out).mono ?_); (case side1 => repeat (first | exact (Kd.C_below HR273_3.out HB.out) | (with_reducible refine Kd.C_alloc ?_ _) | (with_reducible refine Kd.C_drewN ?_ _) | (with_reducible refine Kd.C_drew ?_))); (case side2 => exact HC273_3.out); rintro e w' ⟨rfl, ⟨nd, rfl⟩⟩; refine ⟨_, rfl, ?_⟩; have p275 : 0 ≤ (x5_1 : Int) := of_decide_eq_true (by first | (with_reducible assumption) | assumption); have q275 : x5_1 < (l0.length : Int) := of_decide_eq_true (by first | (with_reducible assumption) | assumption); obtain ⟨ad275, A275_3, c275_3, A275_4, c275_4, e275, hx275_0, hx275_1, hx275_2, hx275_3, hx275_4, hl275_3, hi275_3, hl275_4, hi275_4⟩ := at_T70 HR0.out x5_1 p275 q275; obtain rfl : ad270 = ad275 := (by injection e275); replace hx275_0 := (HB.out.cell (World.block_lt_of_cell? w _ hx275_0)).trans hx275_0; replace hx275_1 := (HB.out.cell (World.block_lt_of_cell? w _ hx275_1)).trans hx275_1; replace hx275_2 := (HB.out.cell (World.block_lt_of_cell? w _ hx275_2)).trans hx275_2; replace hx275_3 := (HB.out.cell (World.block_lt_of_cell? w _ hx275_3)).trans hx275_3; replace hx275_4 := (HB.out.cell (World.block_lt_of_cell? w _ hx275_4)).trans hx275_4; have HR275_3 := Aside0.mk hi275_3; have HC275_3 := Aside0.mk hl275_3; clear hi275_3 hl275_3; have HR275_4 := Aside0.mk hi275_4; have HC275_4 := Aside0.mk hl275_4; clear hi275_4 hl275_4; replace p275 := eq_true p275; replace q275 := eq_true q275; have ea_ := Option.some.inj (hx270_3.symm.trans hx275_3); injection ea_ with ea_ en_ ec_; subst ea_; subst ec_; clear en_; have ea_ := Option.some.inj (hx270_4.symm.trans hx275_4); injection ea_ with ea_ en_ ec_; subst ea_; subst ec_; clear en_) | ((with_reducible refine gate_callee (f := 89) rfl ?_); refine goesL_ (some 54) rfl rfl Try.func89 (by kernel_rfl) rfl #[.slice A270_4 ((rd_T70 l0 x5_1).f4).length c270_4, .int .i64 t274] rfl (by (try simp only [List.map_toArray, List.map_cons, List.map_nil]); first | done | rfl | (simp only [List.length_drop, List.length_take]; rfl)) ?_; (with_reducible refine (laws_heldWriteS.calls k1 _ _ ((rd_T70 l0 x5_1).f4) t274 t276 _ ?side1 ?side2 A10.out).mono ?_); (case side1 => repeat (first | exact (Kd.C_below HR275_4.out (by repeat (first | (with_reducible first | exact HB.out | apply below_alloc | apply pw_below_drewN | apply below_drew1) | exact HB.out))) | (with_reducible refine Kd.C_alloc ?_ _) | (with_reducible refine Kd.C_drewN ?_ _) | (with_reducible refine Kd.C_drew ?_))); (case side2 => exact HC275_4.out); rintro e w12 ⟨rfl, hb⟩; refine ⟨_, rfl, ?_⟩; have n0_ := Aside0.mk (below_step (by repeat (first | (with_reducible first | exact HB.out | apply below_alloc | apply pw_below_drewN | apply below_drew1) | exact HB.out)) hb); clear HB; have HB := n0_; clear n0_; (try clear hb); (try clear hb2); (try clear hk); (try clear hi)))
                    go_ret
                    exact ⟨by first | rfl | (simp [errW_none, errW_some] <;> rfl) | (simp [*, errW_none, errW_some] <;> rfl), by repeat (first | (with_reducible first | exact HB.out | apply below_alloc | apply pw_below_drewN | apply below_drew1) | exact HB.out)⟩
                  · rw [if_neg c11] at H
                    have c11b0 : decide (t276 < 0) = false := decide_eq_false c11
                    clear c11
                    have H' := Aside0.mk H
                    clear H
                    have p270 : 0 ≤ (x5_1 : Int) := of_decide_eq_true (by first | (with_reducible assumption) | assumption)
                    have q270 : x5_1 < (l0.length : Int) := of_decide_eq_true (by first | (with_reducible assumption) | assumption)
                    obtain ⟨ad270, A270_3, c270_3, A270_4, c270_4, e270, hx270_0, hx270_1, hx270_2, hx270_3, hx270_4, hl270_3, hi270_3, hl270_4, hi270_4⟩ := at_T70 HR0.out x5_1 p270 q270
                    cases e270
                    replace hx270_0 := (HB.out.cell (World.block_lt_of_cell? w _ hx270_0)).trans hx270_0
                    replace hx270_1 := (HB.out.cell (World.block_lt_of_cell? w _ hx270_1)).trans hx270_1
                    replace hx270_2 := (HB.out.cell (World.block_lt_of_cell? w _ hx270_2)).trans hx270_2
                    replace hx270_3 := (HB.out.cell (World.block_lt_of_cell? w _ hx270_3)).trans hx270_3
                    replace hx270_4 := (HB.out.cell (World.block_lt_of_cell? w _ hx270_4)).trans hx270_4
                    have HR270_3 := Aside0.mk hi270_3
                    have HC270_3 := Aside0.mk hl270_3
                    clear hi270_3 hl270_3
                    have HR270_4 := Aside0.mk hi270_4
                    have HC270_4 := Aside0.mk hl270_4
                    clear hi270_4 hl270_4
                    replace p270 := eq_true p270
                    replace q270 := eq_true q270
                    have p271 : 0 ≤ (x5_1 : Int) := of_decide_eq_true (by first | (with_reducible assumption) | assumption)
                    have q271 : x5_1 < (l0.length : Int) := of_decide_eq_true (by first | (with_reducible assumption) | assumption)
                    obtain ⟨ad271, A271_3, c271_3, A271_4, c271_4, e271, hx271_0, hx271_1, hx271_2, hx271_3, hx271_4, hl271_3, hi271_3, hl271_4, hi271_4⟩ := at_T70 HR0.out x5_1 p271 q271
                    obtain rfl : ad270 = ad271 := (by injection e271)
                    replace hx271_0 := (HB.out.cell (World.block_lt_of_cell? w _ hx271_0)).trans hx271_0
                    replace hx271_1 := (HB.out.cell (World.block_lt_of_cell? w _ hx271_1)).trans hx271_1
                    replace hx271_2 := (HB.out.cell (World.block_lt_of_cell? w _ hx271_2)).trans hx271_2
                    replace hx271_3 := (HB.out.cell (World.block_lt_of_cell? w _ hx271_3)).trans hx271_3
                    replace hx271_4 := (HB.out.cell (World.block_lt_of_cell? w _ hx271_4)).trans hx271_4
                    have HR271_3 := Aside0.mk hi271_3
                    have HC271_3 := Aside0.mk hl271_3
                    clear hi271_3 hl271_3
                    have HR271_4 := Aside0.mk hi271_4
                    have HC271_4 := Aside0.mk hl271_4
                    clear hi271_4 hl271_4
                    replace p271 := eq_true p271
                    replace q271 := eq_true q271
                    have ea_ := Option.some.inj (hx270_3.symm.trans hx271_3)
                    injection ea_ with ea_ en_ ec_
                    subst ea_
                    subst ec_
                    clear en_
                    have ea_ := Option.some.inj (hx270_4.symm.trans hx271_4)
                    injection ea_ with ea_ en_ ec_
                    subst ea_
                    subst ec_
                    clear en_
                    have p272 : 0 ≤ (x5_1 : Int) := of_decide_eq_true (by first | (with_reducible assumption) | assumption)
                    have q272 : x5_1 < (l0.length : Int) := of_decide_eq_true (by first | (with_reducible assumption) | assumption)
                    obtain ⟨ad272, A272_3, c272_3, A272_4, c272_4, e272, hx272_0, hx272_1, hx272_2, hx272_3, hx272_4, hl272_3, hi272_3, hl272_4, hi272_4⟩ := at_T70 HR0.out x5_1 p272 q272
                    obtain rfl : ad270 = ad272 := (by injection e272)
                    replace hx272_0 := (HB.out.cell (World.block_lt_of_cell? w _ hx272_0)).trans hx272_0
                    replace hx272_1 := (HB.out.cell (World.block_lt_of_cell? w _ hx272_1)).trans hx272_1
                    replace hx272_2 := (HB.out.cell (World.block_lt_of_cell? w _ hx272_2)).trans hx272_2
                    replace hx272_3 := (HB.out.cell (World.block_lt_of_cell? w _ hx272_3)).trans hx272_3
                    replace hx272_4 := (HB.out.cell (World.block_lt_of_cell? w _ hx272_4)).trans hx272_4
                    have HR272_3 := Aside0.mk hi272_3
                    have HC272_3 := Aside0.mk hl272_3
                    clear hi272_3 hl272_3
                    have HR272_4 := Aside0.mk hi272_4
                    have HC272_4 := Aside0.mk hl272_4
                    clear hi272_4 hl272_4
                    replace p272 := eq_true p272
                    replace q272 := eq_true q272
                    have ea_ := Option.some.inj (hx270_3.symm.trans hx272_3)
                    injection ea_ with ea_ en_ ec_
                    subst ea_
                    subst ec_
                    clear en_
                    have ea_ := Option.some.inj (hx270_4.symm.trans hx272_4)
                    injection ea_ with ea_ en_ ec_
                    subst ea_
                    subst ec_
                    clear en_
                    have p273 : 0 ≤ (x5_1 : Int) := of_decide_eq_true (by first | (with_reducible assumption) | assumption)
                    have q273 : x5_1 < (l0.length : Int) := of_decide_eq_true (by first | (with_reducible assumption) | assumption)
                    obtain ⟨ad273, A273_3, c273_3, A273_4, c273_4, e273, hx273_0, hx273_1, hx273_2, hx273_3, hx273_4, hl273_3, hi273_3, hl273_4, hi273_4⟩ := at_T70 HR0.out x5_1 p273 q273
                    obtain rfl : ad270 = ad273 := (by injection e273)
                    replace hx273_0 := (HB.out.cell (World.block_lt_of_cell? w _ hx273_0)).trans hx273_0
                    replace hx273_1 := (HB.out.cell (World.block_lt_of_cell? w _ hx273_1)).trans hx273_1
                    replace hx273_2 := (HB.out.cell (World.block_lt_of_cell? w _ hx273_2)).trans hx273_2
                    replace hx273_3 := (HB.out.cell (World.block_lt_of_cell? w _ hx273_3)).trans hx273_3
                    replace hx273_4 := (HB.out.cell (World.block_lt_of_cell? w _ hx273_4)).trans hx273_4
                    have HR273_3 := Aside0.mk hi273_3
                    have HC273_3 := Aside0.mk hl273_3
                    clear hi273_3 hl273_3
                    have HR273_4 := Aside0.mk hi273_4
                    have HC273_4 := Aside0.mk hl273_4
                    clear hi273_4 hl273_4
                    replace p273 := eq_true p273
                    replace q273 := eq_true q273
                    have ea_ := Option.some.inj (hx270_3.symm.trans hx273_3)
                    injection ea_ with ea_ en_ ec_
                    subst ea_
                    subst ec_
                    clear en_
                    have ea_ := Option.some.inj (hx270_4.symm.trans hx273_4)
                    injection ea_ with ea_ en_ ec_
                    subst ea_
                    subst ec_
                    clear en_
                    go_wp2_with (first | ((with_reducible refine gate_callee (f := 13) rfl ?_); refine goesL_ (some 45) rfl rfl Try.func13 (by kernel_rfl) rfl #[.slice A270_3 ((rd_T70 l0 x5_1).f3).length c270_3, .int .i64 (wrap64 ((wrap64 ((wrap64 (x1_1 + 1)) + 1)) + 1))] rfl (by (try simp only [List.map_toArray, List.map_cons, List.map_nil]); first | done | rfl | (simp only [List.length_drop, List.length_take]; rfl)) ?_; (with_reducible refine (laws_heldIntS.calls k1 _ _ ((rd_T70 l0 x5_1).f3) (wrap64 ((wrap64 ((wrap64 (x1_1 + 1)) + 1)) + 1)) t274 _ ?side1 ?side2 A8.out).mono ?_); (case side1 => repeat (first | exact (Kd.C_below HR273_3.out HB.out) | (with_reducible refine Kd.C_alloc ?_ _) | (with_reducible refine Kd.C_drewN ?_ _) | (with_reducible refine Kd.C_drew ?_))); (case side2 => exact HC273_3.out); rintro e w' ⟨rfl, ⟨nd, rfl⟩⟩; refine ⟨_, rfl, ?_⟩; have p275 : 0 ≤ (x5_1 : Int) := of_decide_eq_true (by first | (with_reducible assumption) | assumption); have q275 : x5_1 < (l0.length : Int) := of_decide_eq_true (by first | (with_reducible assumption) | assumption); obtain ⟨ad275, A275_3, c275_3, A275_4, c275_4, e275, hx275_0, hx275_1, hx275_2, hx275_3, hx275_4, hl275_3, hi275_3, hl275_4, hi275_4⟩ := at_T70 HR0.out x5_1 p275 q275; obtain rfl : ad270 = ad275 := (by injection e275); replace hx275_0 := (HB.out.cell (World.block_lt_of_cell? w _ hx275_0)).trans hx275_0; replace hx275_1 := (HB.out.cell (World.block_lt_of_cell? w _ hx275_1)).trans hx275_1; replace hx275_2 := (HB.out.cell (World.block_lt_of_cell? w _ hx275_2)).trans hx275_2; replace hx275_3 := (HB.out.cell (World.block_lt_of_cell? w _ hx275_3)).trans hx275_3; replace hx275_4 := (HB.out.cell (World.block_lt_of_cell? w _ hx275_4)).trans hx275_4; have HR275_3 := Aside0.mk hi275_3; have HC275_3 := Aside0.mk hl275_3; clear hi275_3 hl275_3; have HR275_4 := Aside0.mk hi275_4; have HC275_4 := Aside0.mk hl275_4; clear hi275_4 hl275_4; replace p275 := eq_true p275; replace q275 := eq_true q275; have ea_ := Option.some.inj (hx270_3.symm.trans hx275_3); injection ea_ with ea_ en_ ec_; subst ea_; subst ec_; clear en_; have ea_ := Option.some.inj (hx270_4.symm.trans hx275_4); injection ea_ with ea_ en_ ec_; subst ea_; subst ec_; clear en_) | ((with_reducible refine gate_callee (f := 89) rfl ?_); refine goesL_ (some 54) rfl rfl Try.func89 (by kernel_rfl) rfl #[.slice A270_4 ((rd_T70 l0 x5_1).f4).length c270_4, .int .i64 t274] rfl (by (try simp only [List.map_toArray, List.map_cons, List.map_nil]); first | done | rfl | (simp only [List.length_drop, List.length_take]; rfl)) ?_; (with_reducible refine (laws_heldWriteS.calls k1 _ _ ((rd_T70 l0 x5_1).f4) t274 t276 _ ?side1 ?side2 A10.out).mono ?_); (case side1 => repeat (first | exact (Kd.C_below HR275_4.out (by repeat (first | (with_reducible first | exact HB.out | apply below_alloc | apply pw_below_drewN | apply below_drew1) | exact HB.out))) | (with_reducible refine Kd.C_alloc ?_ _) | (with_reducible refine Kd.C_drewN ?_ _) | (with_reducible refine Kd.C_drew ?_))); (case side2 => exact HC275_4.out); rintro e w13 ⟨rfl, hb⟩; refine ⟨_, rfl, ?_⟩; have n0_ := Aside0.mk (below_step (by repeat (first | (with_reducible first | exact HB.out | apply below_alloc | apply pw_below_drewN | apply below_drew1) | exact HB.out)) hb); clear HB; have HB := n0_; clear n0_; (try clear hb); (try clear hb2); (try clear hk); (try clear hi)))
                    go_roundg k1
                    case measure => have := HK1.out; omega
                    case rel => exact ⟨(t276), (wrap64 (x5_1 + 1)), (by first | rfl | (simp; done) | (simp [*]; done)), (by first | rfl | (simp; done) | (simp [*]; done)), H', ⟨by have := HK1.out; omega⟩, ⟨by repeat (first | (with_reducible first | exact HB.out | apply below_alloc | apply pw_below_drewN | apply below_drew1) | exact HB.out)⟩⟩
              · rw [if_neg c7] at H
                have c7b0 : (((rd_T70 l0 x5_1).f2) == (wrap64 ((wrap64 (x1_1 + 1)) + 1))) = false := beq_eq_false_iff_ne.mpr c7
                have c7b1 : (((rd_T70 l0 x5_1).f2) != (wrap64 ((wrap64 (x1_1 + 1)) + 1))) = true := bne_iff_ne.mpr c7
                obtain rfl := Option.some.inj H
                have p270 : 0 ≤ (x5_1 : Int) := of_decide_eq_true (by first | (with_reducible assumption) | assumption)
                have q270 : x5_1 < (l0.length : Int) := of_decide_eq_true (by first | (with_reducible assumption) | assumption)
                obtain ⟨ad270, A270_3, c270_3, A270_4, c270_4, e270, hx270_0, hx270_1, hx270_2, hx270_3, hx270_4, hl270_3, hi270_3, hl270_4, hi270_4⟩ := at_T70 HR0.out x5_1 p270 q270
                cases e270
                replace hx270_0 := (HB.out.cell (World.block_lt_of_cell? w _ hx270_0)).trans hx270_0
                replace hx270_1 := (HB.out.cell (World.block_lt_of_cell? w _ hx270_1)).trans hx270_1
                replace hx270_2 := (HB.out.cell (World.block_lt_of_cell? w _ hx270_2)).trans hx270_2
                replace hx270_3 := (HB.out.cell (World.block_lt_of_cell? w _ hx270_3)).trans hx270_3
                replace hx270_4 := (HB.out.cell (World.block_lt_of_cell? w _ hx270_4)).trans hx270_4
                have HR270_3 := Aside0.mk hi270_3
                have HC270_3 := Aside0.mk hl270_3
                clear hi270_3 hl270_3
                have HR270_4 := Aside0.mk hi270_4
                have HC270_4 := Aside0.mk hl270_4
                clear hi270_4 hl270_4
                replace p270 := eq_true p270
                replace q270 := eq_true q270
                have p271 : 0 ≤ (x5_1 : Int) := of_decide_eq_true (by first | (with_reducible assumption) | assumption)
                have q271 : x5_1 < (l0.length : Int) := of_decide_eq_true (by first | (with_reducible assumption) | assumption)
                obtain ⟨ad271, A271_3, c271_3, A271_4, c271_4, e271, hx271_0, hx271_1, hx271_2, hx271_3, hx271_4, hl271_3, hi271_3, hl271_4, hi271_4⟩ := at_T70 HR0.out x5_1 p271 q271
                obtain rfl : ad270 = ad271 := (by injection e271)
                replace hx271_0 := (HB.out.cell (World.block_lt_of_cell? w _ hx271_0)).trans hx271_0
                replace hx271_1 := (HB.out.cell (World.block_lt_of_cell? w _ hx271_1)).trans hx271_1
                replace hx271_2 := (HB.out.cell (World.block_lt_of_cell? w _ hx271_2)).trans hx271_2
                replace hx271_3 := (HB.out.cell (World.block_lt_of_cell? w _ hx271_3)).trans hx271_3
                replace hx271_4 := (HB.out.cell (World.block_lt_of_cell? w _ hx271_4)).trans hx271_4
                have HR271_3 := Aside0.mk hi271_3
                have HC271_3 := Aside0.mk hl271_3
                clear hi271_3 hl271_3
                have HR271_4 := Aside0.mk hi271_4
                have HC271_4 := Aside0.mk hl271_4
                clear hi271_4 hl271_4
                replace p271 := eq_true p271
                replace q271 := eq_true q271
                have ea_ := Option.some.inj (hx270_3.symm.trans hx271_3)
                injection ea_ with ea_ en_ ec_
                subst ea_
                subst ec_
                clear en_
                have ea_ := Option.some.inj (hx270_4.symm.trans hx271_4)
                injection ea_ with ea_ en_ ec_
                subst ea_
                subst ec_
                clear en_
                have p272 : 0 ≤ (x5_1 : Int) := of_decide_eq_true (by first | (with_reducible assumption) | assumption)
                have q272 : x5_1 < (l0.length : Int) := of_decide_eq_true (by first | (with_reducible assumption) | assumption)
                obtain ⟨ad272, A272_3, c272_3, A272_4, c272_4, e272, hx272_0, hx272_1, hx272_2, hx272_3, hx272_4, hl272_3, hi272_3, hl272_4, hi272_4⟩ := at_T70 HR0.out x5_1 p272 q272
                obtain rfl : ad270 = ad272 := (by injection e272)
                replace hx272_0 := (HB.out.cell (World.block_lt_of_cell? w _ hx272_0)).trans hx272_0
                replace hx272_1 := (HB.out.cell (World.block_lt_of_cell? w _ hx272_1)).trans hx272_1
                replace hx272_2 := (HB.out.cell (World.block_lt_of_cell? w _ hx272_2)).trans hx272_2
                replace hx272_3 := (HB.out.cell (World.block_lt_of_cell? w _ hx272_3)).trans hx272_3
                replace hx272_4 := (HB.out.cell (World.block_lt_of_cell? w _ hx272_4)).trans hx272_4
                have HR272_3 := Aside0.mk hi272_3
                have HC272_3 := Aside0.mk hl272_3
                clear hi272_3 hl272_3
                have HR272_4 := Aside0.mk hi272_4
                have HC272_4 := Aside0.mk hl272_4
                clear hi272_4 hl272_4
                replace p272 := eq_true p272
                replace q272 := eq_true q272
                have ea_ := Option.some.inj (hx270_3.symm.trans hx272_3)
                injection ea_ with ea_ en_ ec_
                subst ea_
                subst ec_
                clear en_
                have ea_ := Option.some.inj (hx270_4.symm.trans hx272_4)
                injection ea_ with ea_ en_ ec_
                subst ea_
                subst ec_
                clear en_
                go_wp2
                go_ret
                exact ⟨by first | rfl | (simp [errW_none, errW_some] <;> rfl) | (simp [*, errW_none, errW_some] <;> rfl), by repeat (first | (with_reducible first | exact HB.out | apply below_alloc | apply pw_below_drewN | apply below_drew1) | exact HB.out)⟩
            · rw [if_neg c6] at H
              have c6b0 : (((rd_T70 l0 x5_1).f1) == (wrap64 (x1_1 + 1))) = false := beq_eq_false_iff_ne.mpr c6
              have c6b1 : (((rd_T70 l0 x5_1).f1) != (wrap64 (x1_1 + 1))) = true := bne_iff_ne.mpr c6
              obtain rfl := Option.some.inj H
              have p270 : 0 ≤ (x5_1 : Int) := of_decide_eq_true (by first | (with_reducible assumption) | assumption)
              have q270 : x5_1 < (l0.length : Int) := of_decide_eq_true (by first | (with_reducible assumption) | assumption)
              obtain ⟨ad270, A270_3, c270_3, A270_4, c270_4, e270, hx270_0, hx270_1, hx270_2, hx270_3, hx270_4, hl270_3, hi270_3, hl270_4, hi270_4⟩ := at_T70 HR0.out x5_1 p270 q270
              cases e270
              replace hx270_0 := (HB.out.cell (World.block_lt_of_cell? w _ hx270_0)).trans hx270_0
              replace hx270_1 := (HB.out.cell (World.block_lt_of_cell? w _ hx270_1)).trans hx270_1
              replace hx270_2 := (HB.out.cell (World.block_lt_of_cell? w _ hx270_2)).trans hx270_2
              replace hx270_3 := (HB.out.cell (World.block_lt_of_cell? w _ hx270_3)).trans hx270_3
              replace hx270_4 := (HB.out.cell (World.block_lt_of_cell? w _ hx270_4)).trans hx270_4
              have HR270_3 := Aside0.mk hi270_3
              have HC270_3 := Aside0.mk hl270_3
              clear hi270_3 hl270_3
              have HR270_4 := Aside0.mk hi270_4
              have HC270_4 := Aside0.mk hl270_4
              clear hi270_4 hl270_4
              replace p270 := eq_true p270
              replace q270 := eq_true q270
              have p271 : 0 ≤ (x5_1 : Int) := of_decide_eq_true (by first | (with_reducible assumption) | assumption)
              have q271 : x5_1 < (l0.length : Int) := of_decide_eq_true (by first | (with_reducible assumption) | assumption)
              obtain ⟨ad271, A271_3, c271_3, A271_4, c271_4, e271, hx271_0, hx271_1, hx271_2, hx271_3, hx271_4, hl271_3, hi271_3, hl271_4, hi271_4⟩ := at_T70 HR0.out x5_1 p271 q271
              obtain rfl : ad270 = ad271 := (by injection e271)
              replace hx271_0 := (HB.out.cell (World.block_lt_of_cell? w _ hx271_0)).trans hx271_0
              replace hx271_1 := (HB.out.cell (World.block_lt_of_cell? w _ hx271_1)).trans hx271_1
              replace hx271_2 := (HB.out.cell (World.block_lt_of_cell? w _ hx271_2)).trans hx271_2
              replace hx271_3 := (HB.out.cell (World.block_lt_of_cell? w _ hx271_3)).trans hx271_3
              replace hx271_4 := (HB.out.cell (World.block_lt_of_cell? w _ hx271_4)).trans hx271_4
              have HR271_3 := Aside0.mk hi271_3
              have HC271_3 := Aside0.mk hl271_3
              clear hi271_3 hl271_3
              have HR271_4 := Aside0.mk hi271_4
              have HC271_4 := Aside0.mk hl271_4
              clear hi271_4 hl271_4
              replace p271 := eq_true p271
              replace q271 := eq_true q271
              have ea_ := Option.some.inj (hx270_3.symm.trans hx271_3)
              injection ea_ with ea_ en_ ec_
              subst ea_
              subst ec_
              clear en_
              have ea_ := Option.some.inj (hx270_4.symm.trans hx271_4)
              injection ea_ with ea_ en_ ec_
              subst ea_
              subst ec_
              clear en_
              go_wp2
              go_ret
              exact ⟨by first | rfl | (simp [errW_none, errW_some] <;> rfl) | (simp [*, errW_none, errW_some] <;> rfl), by repeat (first | (with_reducible first | exact HB.out | apply below_alloc | apply pw_below_drewN | apply below_drew1) | exact HB.out)⟩
          · rw [if_neg c5] at H
            have c5b0 : (((rd_T70 l0 x5_1).f0) == x1_1) = false := beq_eq_false_iff_ne.mpr c5
            have c5b1 : (((rd_T70 l0 x5_1).f0) != x1_1) = true := bne_iff_ne.mpr c5
            obtain rfl := Option.some.inj H
            have p270 : 0 ≤ (x5_1 : Int) := of_decide_eq_true (by first | (with_reducible assumption) | assumption)
            have q270 : x5_1 < (l0.length : Int) := of_decide_eq_true (by first | (with_reducible assumption) | assumption)
            obtain ⟨ad270, A270_3, c270_3, A270_4, c270_4, e270, hx270_0, hx270_1, hx270_2, hx270_3, hx270_4, hl270_3, hi270_3, hl270_4, hi270_4⟩ := at_T70 HR0.out x5_1 p270 q270
            cases e270
            replace hx270_0 := (HB.out.cell (World.block_lt_of_cell? w _ hx270_0)).trans hx270_0
            replace hx270_1 := (HB.out.cell (World.block_lt_of_cell? w _ hx270_1)).trans hx270_1
            replace hx270_2 := (HB.out.cell (World.block_lt_of_cell? w _ hx270_2)).trans hx270_2
            replace hx270_3 := (HB.out.cell (World.block_lt_of_cell? w _ hx270_3)).trans hx270_3
            replace hx270_4 := (HB.out.cell (World.block_lt_of_cell? w _ hx270_4)).trans hx270_4
            have HR270_3 := Aside0.mk hi270_3
            have HC270_3 := Aside0.mk hl270_3
            clear hi270_3 hl270_3
            have HR270_4 := Aside0.mk hi270_4
            have HC270_4 := Aside0.mk hl270_4
            clear hi270_4 hl270_4
            replace p270 := eq_true p270
            replace q270 := eq_true q270
            go_wp2
            go_ret
            exact ⟨by first | rfl | (simp [errW_none, errW_some] <;> rfl) | (simp [*, errW_none, errW_some] <;> rfl), by repeat (first | (with_reducible first | exact HB.out | apply below_alloc | apply pw_below_drewN | apply below_drew1) | exact HB.out)⟩
        · rw [if_neg c4] at H
          exact absurd H (by simp)
      · rw [if_neg c3] at H
        have c3b0 : decide (x5_1 < (l0.length : Int)) = false := decide_eq_false c3
        clear c3
        obtain rfl := Option.some.inj H
        go_wp2
        go_ret
        exact ⟨by first | rfl | (simp [errW_none, errW_some] <;> rfl) | (simp [*, errW_none, errW_some] <;> rfl), by repeat (first | (with_reducible first | exact HB.out | apply below_alloc | apply pw_below_drewN | apply below_drew1) | exact HB.out)⟩
end

section
/-! ### laws_heldHouse: function 18 -/
def laws_heldHouse.f (k : Nat) (l0_0 : List (S106)) (a0_1 : Int) (l0_2 : List (S70)) (a1 : Int) : Option (Int) := (laws_heldVersionS.f k l0_0 a1).bind fun t278 => (if t278 < 0 then (some (-1)) else ((laws_heldTxnS.f k l0_2 t278).bind fun t279 => (if t279 < 0 then (some (-1)) else (some t279))))
theorem laws_heldHouse.mono : ∀ a0 a1 a2 a3 k, LeO (laws_heldHouse.f k a0 a1 a2 a3) (laws_heldHouse.f (k + 1) a0 a1 a2 a3) := by
  intro a0 a1 a2 a3 k
  unfold laws_heldHouse.f
  repeat' first
      | (with_reducible exact laws_heldTxnS.mono _ _ _)
      | (with_reducible exact laws_heldVersionS.mono _ _ _)
      | (with_reducible exact LeO.refl _)
      | (with_reducible exact LeO.none _)
      | (with_reducible refine LeO.ite ?_ ?_)
      | (with_reducible refine LeO.bind ?_ (fun _ => ?_))
      | exact laws_heldTxnS.mono _ _ _
      | exact laws_heldVersionS.mono _ _ _
      | exact LeO.none _
      | refine LeO.ite ?_ ?_
      | refine LeO.bind ?_ (fun _ => ?_)
set_option maxHeartbeats 8000000 in
set_option maxRecDepth 100000 in
theorem laws_heldHouse.calls (k : Nat) (A0_0 : Option Addr) (c0_0 : Nat) (l0_0 : List (S106)) (a0_1 : Int) (A0_2 : Option Addr) (c0_2 : Nat) (l0_2 : List (S70)) (a1 : Int) (r : Int) (w : World) (hr0_0 : Kd.C k106 w A0_0 l0_0.length l0_0) (hc0_0 : l0_0.length ≤ c0_0) (hr0_2 : Kd.C k70 w A0_2 l0_2.length l0_2) (hc0_2 : l0_2.length ≤ c0_2) (h : laws_heldHouse.f k l0_0 a0_1 l0_2 a1 = some r) :
    Calls Try.prog 18 #[.agg #[.slice A0_0 l0_0.length c0_0, .int .i64 a0_1, .slice A0_2 l0_2.length c0_2], .int .i64 a1] w fun e w' => e = .returned (.int .i64 r) ∧ Below w.heap.size w w' := by
  have hu32 := Try.underlying32
  have HR0_0 := Aside0.mk hr0_0
  have HC0_0 := Aside0.mk hc0_0
  clear hr0_0 hc0_0
  have HR0_2 := Aside0.mk hr0_2
  have HC0_2 := Aside0.mk hc0_2
  clear hr0_2 hc0_2
  have HB := Aside0.mk (Below.refl w.heap.size w)
  have H : ((laws_heldVersionS.f k l0_0 a1).bind fun t278 => (if t278 < 0 then (some (-1)) else ((laws_heldTxnS.f k l0_2 t278).bind fun t279 => (if t279 < 0 then (some (-1)) else (some t279))))) = some r := h
  clear h
  replace H := Option.bind_eq_some_iff.mp H
  obtain ⟨t278, A30, H⟩ := H
  replace H : (if t278 < 0 then (some (-1)) else ((laws_heldTxnS.f k l0_2 t278).bind fun t279 => (if t279 < 0 then (some (-1)) else (some t279)))) = some r := H
  have A3 := Aside0.mk A30
  clear A30
  by_cases c4 : t278 < 0
  · rw [if_pos c4] at H
    have c4b0 : decide (t278 < 0) = true := decide_eq_true c4
    clear c4
    obtain rfl := Option.some.inj H
    go_enter Try.func18, Try.ntmps18
    go_wp2_with (first | ((with_reducible refine gate_dst (N := 2) rfl ?_); refine box_event ?hg (N := 2) ?hd (cs := #[.slice A0_0 l0_0.length c0_0, .int .i64 a0_1, .slice A0_2 l0_2.length c0_2]) (t := 32) ?hr ?_; (case hd => rfl); (case hg => rfl); (case hr => first | (go_simp; done) | (go_simp; rfl)); intro gb277 hg w5 hbox hb; have n0_ := Aside0.mk (below_step (by repeat (first | (with_reducible first | exact HB.out | apply below_alloc | apply pw_below_drewN | apply below_drew1) | exact HB.out)) hb); have n1_ := Aside0.mk (hbox); have n2_ := Aside0.mk ((by rw [hg]; exact (below_size (by repeat (first | (with_reducible first | exact HB.out | apply below_alloc | apply pw_below_drewN | apply below_drew1) | exact HB.out))) : w.heap.size ≤ gb277)); have n3_ := Aside0.mk ((by rw [hg]; exact (below_size (by repeat (first | (with_reducible first | exact HB.out | apply below_alloc | apply pw_below_drewN | apply below_drew1) | exact HB.out))) : w.heap.size ≤ gb277)); clear HB; have HB := n0_; have BK277 := n1_; have GW277 := n2_; have GE277 := n3_; clear n0_ n1_ n2_ n3_; clear hb hbox hg; have hcz6_0 : w5.cell? ⟨gb277, 0, none⟩ = some (.slice A0_0 l0_0.length c0_0) := (blk_cell BK277.out 0).trans rfl; have hcz6_1 : w5.cell? ⟨gb277, 1, none⟩ = some (.int .i64 a0_1) := (blk_cell BK277.out 1).trans rfl; have hcz6_2 : w5.cell? ⟨gb277, 2, none⟩ = some (.slice A0_2 l0_2.length c0_2) := (blk_cell BK277.out 2).trans rfl; have hfz6_0 := blk_frozen BK277.out 0; have hfz6_1 := blk_frozen BK277.out 1; have hfz6_2 := blk_frozen BK277.out 2) | ((with_reducible refine gate_callee (f := 44) rfl ?_); refine goesL_ (some 8) rfl rfl Try.func44 (by kernel_rfl) rfl #[.slice A0_0 l0_0.length c0_0, .int .i64 a1] rfl (by (try simp only [List.map_toArray, List.map_cons, List.map_nil]); first | done | rfl | (simp only [List.length_drop, List.length_take]; rfl)) ?_; (with_reducible refine (laws_heldVersionS.calls k _ _ l0_0 a1 t278 _ ?side1 ?side2 A3.out).mono ?_); (case side1 => repeat (first | exact (Kd.C_below HR0_0.out HB.out) | (with_reducible refine Kd.C_alloc ?_ _) | (with_reducible refine Kd.C_drewN ?_ _) | (with_reducible refine Kd.C_drew ?_))); (case side2 => exact HC0_0.out); rintro e w7 ⟨rfl, hb⟩; refine ⟨_, rfl, ?_⟩; have n0_ := Aside0.mk (blk_below (g := gb277) (o := .cells #[.slice A0_0 l0_0.length c0_0, .int .i64 a0_1, .slice A0_2 l0_2.length c0_2] 32 (0, 0)) (by (with_reducible repeat (first | refine blk_drewN ?_ _ | refine blk_drew ?_ | refine blk_alloc ?_ _)); exact BK277.out) hb); have n1_ := Aside0.mk (below_step (by repeat (first | (with_reducible first | exact HB.out | apply below_alloc | apply pw_below_drewN | apply below_drew1 | refine below_set ?_ GE277.out) | exact HB.out)) hb); clear BK277; clear HB; have BK277 := n0_; have HB := n1_; clear n0_ n1_; (try clear hb); (try clear hb2); (try clear hk); (try clear hi)))
    go_ret
    exact ⟨by first | rfl | (simp [errW_none, errW_some] <;> rfl) | (simp [*, errW_none, errW_some] <;> rfl), by repeat (first | (with_reducible first | exact HB.out | apply below_alloc | apply pw_below_drewN | apply below_drew1 | refine below_set ?_ GE277.out) | exact HB.out)⟩
  · rw [if_neg c4] at H
    have c4b0 : decide (t278 < 0) = false := decide_eq_false c4
    clear c4
    replace H := Option.bind_eq_some_iff.mp H
    obtain ⟨t279, A80, H⟩ := H
    replace H : (if t279 < 0 then (some (-1)) else (some t279)) = some r := H
    have A8 := Aside0.mk A80
    clear A80
    by_cases c9 : t279 < 0
    · rw [if_pos c9] at H
      have c9b0 : decide (t279 < 0) = true := decide_eq_true c9
      clear c9
      obtain rfl := Option.some.inj H
      go_enter Try.func18, Try.ntmps18
      go_wp2_with (first | ((with_reducible refine gate_dst (N := 2) rfl ?_); refine box_event ?hg (N := 2) ?hd (cs := #[.slice A0_0 l0_0.length c0_0, .int .i64 a0_1, .slice A0_2 l0_2.length c0_2]) (t := 32) ?hr ?_; (case hd => rfl); (case hg => rfl); (case hr => first | (go_simp; done) | (go_simp; rfl)); intro gb277 hg w10 hbox hb; have n0_ := Aside0.mk (below_step (by repeat (first | (with_reducible first | exact HB.out | apply below_alloc | apply pw_below_drewN | apply below_drew1) | exact HB.out)) hb); have n1_ := Aside0.mk (hbox); have n2_ := Aside0.mk ((by rw [hg]; exact (below_size (by repeat (first | (with_reducible first | exact HB.out | apply below_alloc | apply pw_below_drewN | apply below_drew1) | exact HB.out))) : w.heap.size ≤ gb277)); have n3_ := Aside0.mk ((by rw [hg]; exact (below_size (by repeat (first | (with_reducible first | exact HB.out | apply below_alloc | apply pw_below_drewN | apply below_drew1) | exact HB.out))) : w.heap.size ≤ gb277)); clear HB; have HB := n0_; have BK277 := n1_; have GW277 := n2_; have GE277 := n3_; clear n0_ n1_ n2_ n3_; clear hb hbox hg; have hcz11_0 : w10.cell? ⟨gb277, 0, none⟩ = some (.slice A0_0 l0_0.length c0_0) := (blk_cell BK277.out 0).trans rfl; have hcz11_1 : w10.cell? ⟨gb277, 1, none⟩ = some (.int .i64 a0_1) := (blk_cell BK277.out 1).trans rfl; have hcz11_2 : w10.cell? ⟨gb277, 2, none⟩ = some (.slice A0_2 l0_2.length c0_2) := (blk_cell BK277.out 2).trans rfl; have hfz11_0 := blk_frozen BK277.out 0; have hfz11_1 := blk_frozen BK277.out 1; have hfz11_2 := blk_frozen BK277.out 2) | ((with_reducible refine gate_callee (f := 44) rfl ?_); refine goesL_ (some 8) rfl rfl Try.func44 (by kernel_rfl) rfl #[.slice A0_0 l0_0.length c0_0, .int .i64 a1] rfl (by (try simp only [List.map_toArray, List.map_cons, List.map_nil]); first | done | rfl | (simp only [List.length_drop, List.length_take]; rfl)) ?_; (with_reducible refine (laws_heldVersionS.calls k _ _ l0_0 a1 t278 _ ?side1 ?side2 A3.out).mono ?_); (case side1 => repeat (first | exact (Kd.C_below HR0_0.out HB.out) | (with_reducible refine Kd.C_alloc ?_ _) | (with_reducible refine Kd.C_drewN ?_ _) | (with_reducible refine Kd.C_drew ?_))); (case side2 => exact HC0_0.out); rintro e w12 ⟨rfl, hb⟩; refine ⟨_, rfl, ?_⟩; have n0_ := Aside0.mk (blk_below (g := gb277) (o := .cells #[.slice A0_0 l0_0.length c0_0, .int .i64 a0_1, .slice A0_2 l0_2.length c0_2] 32 (0, 0)) (by (with_reducible repeat (first | refine blk_drewN ?_ _ | refine blk_drew ?_ | refine blk_alloc ?_ _)); exact BK277.out) hb); have n1_ := Aside0.mk (below_step (by repeat (first | (with_reducible first | exact HB.out | apply below_alloc | apply pw_below_drewN | apply below_drew1 | refine below_set ?_ GE277.out) | exact HB.out)) hb); clear BK277; clear HB; have BK277 := n0_; have HB := n1_; clear n0_ n1_; (try clear hb); (try clear hb2); (try clear hk); (try clear hi); have hcz13_0 : w12.cell? ⟨gb277, 0, none⟩ = some (.slice A0_0 l0_0.length c0_0) := (blk_cell BK277.out 0).trans rfl; have hcz13_1 : w12.cell? ⟨gb277, 1, none⟩ = some (.int .i64 a0_1) := (blk_cell BK277.out 1).trans rfl; have hcz13_2 : w12.cell? ⟨gb277, 2, none⟩ = some (.slice A0_2 l0_2.length c0_2) := (blk_cell BK277.out 2).trans rfl; have hfz13_0 := blk_frozen BK277.out 0; have hfz13_1 := blk_frozen BK277.out 1; have hfz13_2 := blk_frozen BK277.out 2) | ((with_reducible refine gate_callee (f := 45) rfl ?_); refine goesL_ (some 14) rfl rfl Try.func45 (by kernel_rfl) rfl #[.slice A0_2 l0_2.length c0_2, .int .i64 t278] rfl (by (try simp only [List.map_toArray, List.map_cons, List.map_nil]); first | done | rfl | (simp only [List.length_drop, List.length_take]; rfl)) ?_; (with_reducible refine (laws_heldTxnS.calls k _ _ l0_2 t278 t279 _ ?side1 ?side2 A8.out).mono ?_); (case side1 => repeat (first | exact (Kd.C_below HR0_2.out HB.out) | (with_reducible refine Kd.C_alloc ?_ _) | (with_reducible refine Kd.C_drewN ?_ _) | (with_reducible refine Kd.C_drew ?_))); (case side2 => exact HC0_2.out); rintro e w14 ⟨rfl, hb⟩; refine ⟨_, rfl, ?_⟩; have n0_ := Aside0.mk (blk_below (g := gb277) (o := .cells #[.slice A0_0 l0_0.length c0_0, .int .i64 a0_1, .slice A0_2 l0_2.length c0_2] 32 (0, 0)) (by (with_reducible repeat (first | refine blk_drewN ?_ _ | refine blk_drew ?_ | refine blk_alloc ?_ _)); exact BK277.out) hb); have n1_ := Aside0.mk (below_step (by repeat (first | (with_reducible first | exact HB.out | apply below_alloc | apply pw_below_drewN | apply below_drew1 | refine below_set ?_ GE277.out) | exact HB.out)) hb); clear BK277; clear HB; have BK277 := n0_; have HB := n1_; clear n0_ n1_; (try clear hb); (try clear hb2); (try clear hk); (try clear hi)))
      go_ret
      exact ⟨by first | rfl | (simp [errW_none, errW_some] <;> rfl) | (simp [*, errW_none, errW_some] <;> rfl), by repeat (first | (with_reducible first | exact HB.out | apply below_alloc | apply pw_below_drewN | apply below_drew1 | refine below_set ?_ GE277.out) | exact HB.out)⟩
    · rw [if_neg c9] at H
      have c9b0 : decide (t279 < 0) = false := decide_eq_false c9
      clear c9
      obtain rfl := Option.some.inj H
      go_enter Try.func18, Try.ntmps18
      go_wp2_with (first | ((with_reducible refine gate_dst (N := 2) rfl ?_); refine box_event ?hg (N := 2) ?hd (cs := #[.slice A0_0 l0_0.length c0_0, .int .i64 a0_1, .slice A0_2 l0_2.length c0_2]) (t := 32) ?hr ?_; (case hd => rfl); (case hg => rfl); (case hr => first | (go_simp; done) | (go_simp; rfl)); intro gb277 hg w15 hbox hb; have n0_ := Aside0.mk (below_step (by repeat (first | (with_reducible first | exact HB.out | apply below_alloc | apply pw_below_drewN | apply below_drew1) | exact HB.out)) hb); have n1_ := Aside0.mk (hbox); have n2_ := Aside0.mk ((by rw [hg]; exact (below_size (by repeat (first | (with_reducible first | exact HB.out | apply below_alloc | apply pw_below_drewN | apply below_drew1) | exact HB.out))) : w.heap.size ≤ gb277)); have n3_ := Aside0.mk ((by rw [hg]; exact (below_size (by repeat (first | (with_reducible first | exact HB.out | apply below_alloc | apply pw_below_drewN | apply below_drew1) | exact HB.out))) : w.heap.size ≤ gb277)); clear HB; have HB := n0_; have BK277 := n1_; have GW277 := n2_; have GE277 := n3_; clear n0_ n1_ n2_ n3_; clear hb hbox hg; have hcz16_0 : w15.cell? ⟨gb277, 0, none⟩ = some (.slice A0_0 l0_0.length c0_0) := (blk_cell BK277.out 0).trans rfl; have hcz16_1 : w15.cell? ⟨gb277, 1, none⟩ = some (.int .i64 a0_1) := (blk_cell BK277.out 1).trans rfl; have hcz16_2 : w15.cell? ⟨gb277, 2, none⟩ = some (.slice A0_2 l0_2.length c0_2) := (blk_cell BK277.out 2).trans rfl; have hfz16_0 := blk_frozen BK277.out 0; have hfz16_1 := blk_frozen BK277.out 1; have hfz16_2 := blk_frozen BK277.out 2) | ((with_reducible refine gate_callee (f := 44) rfl ?_); refine goesL_ (some 8) rfl rfl Try.func44 (by kernel_rfl) rfl #[.slice A0_0 l0_0.length c0_0, .int .i64 a1] rfl (by (try simp only [List.map_toArray, List.map_cons, List.map_nil]); first | done | rfl | (simp only [List.length_drop, List.length_take]; rfl)) ?_; (with_reducible refine (laws_heldVersionS.calls k _ _ l0_0 a1 t278 _ ?side1 ?side2 A3.out).mono ?_); (case side1 => repeat (first | exact (Kd.C_below HR0_0.out HB.out) | (with_reducible refine Kd.C_alloc ?_ _) | (with_reducible refine Kd.C_drewN ?_ _) | (with_reducible refine Kd.C_drew ?_))); (case side2 => exact HC0_0.out); rintro e w17 ⟨rfl, hb⟩; refine ⟨_, rfl, ?_⟩; have n0_ := Aside0.mk (blk_below (g := gb277) (o := .cells #[.slice A0_0 l0_0.length c0_0, .int .i64 a0_1, .slice A0_2 l0_2.length c0_2] 32 (0, 0)) (by (with_reducible repeat (first | refine blk_drewN ?_ _ | refine blk_drew ?_ | refine blk_alloc ?_ _)); exact BK277.out) hb); have n1_ := Aside0.mk (below_step (by repeat (first | (with_reducible first | exact HB.out | apply below_alloc | apply pw_below_drewN | apply below_drew1 | refine below_set ?_ GE277.out) | exact HB.out)) hb); clear BK277; clear HB; have BK277 := n0_; have HB := n1_; clear n0_ n1_; (try clear hb); (try clear hb2); (try clear hk); (try clear hi); have hcz18_0 : w17.cell? ⟨gb277, 0, none⟩ = some (.slice A0_0 l0_0.length c0_0) := (blk_cell BK277.out 0).trans rfl; have hcz18_1 : w17.cell? ⟨gb277, 1, none⟩ = some (.int .i64 a0_1) := (blk_cell BK277.out 1).trans rfl; have hcz18_2 : w17.cell? ⟨gb277, 2, none⟩ = some (.slice A0_2 l0_2.length c0_2) := (blk_cell BK277.out 2).trans rfl; have hfz18_0 := blk_frozen BK277.out 0; have hfz18_1 := blk_frozen BK277.out 1; have hfz18_2 := blk_frozen BK277.out 2) | ((with_reducible refine gate_callee (f := 45) rfl ?_); refine goesL_ (some 14) rfl rfl Try.func45 (by kernel_rfl) rfl #[.slice A0_2 l0_2.length c0_2, .int .i64 t278] rfl (by (try simp only [List.map_toArray, List.map_cons, List.map_nil]); first | done | rfl | (simp only [List.length_drop, List.length_take]; rfl)) ?_; (with_reducible refine (laws_heldTxnS.calls k _ _ l0_2 t278 t279 _ ?side1 ?side2 A8.out).mono ?_); (case side1 => repeat (first | exact (Kd.C_below HR0_2.out HB.out) | (with_reducible refine Kd.C_alloc ?_ _) | (with_reducible refine Kd.C_drewN ?_ _) | (with_reducible refine Kd.C_drew ?_))); (case side2 => exact HC0_2.out); rintro e w19 ⟨rfl, hb⟩; refine ⟨_, rfl, ?_⟩; have n0_ := Aside0.mk (blk_below (g := gb277) (o := .cells #[.slice A0_0 l0_0.length c0_0, .int .i64 a0_1, .slice A0_2 l0_2.length c0_2] 32 (0, 0)) (by (with_reducible repeat (first | refine blk_drewN ?_ _ | refine blk_drew ?_ | refine blk_alloc ?_ _)); exact BK277.out) hb); have n1_ := Aside0.mk (below_step (by repeat (first | (with_reducible first | exact HB.out | apply below_alloc | apply pw_below_drewN | apply below_drew1 | refine below_set ?_ GE277.out) | exact HB.out)) hb); clear BK277; clear HB; have BK277 := n0_; have HB := n1_; clear n0_ n1_; (try clear hb); (try clear hb2); (try clear hk); (try clear hi)))
      go_ret
      exact ⟨by first | rfl | (simp [errW_none, errW_some] <;> rfl) | (simp [*, errW_none, errW_some] <;> rfl), by repeat (first | (with_reducible first | exact HB.out | apply below_alloc | apply pw_below_drewN | apply below_drew1 | refine below_set ?_ GE277.out) | exact HB.out)⟩
end

section
/-! ### laws_FnExactHouseNew: function 4 -/
theorem hn_nil {α : Type} (d : Kd α) (W : World) (A : Option Addr) : d.C W A ([] : List α).length [] := ⟨rfl, Nat.zero_le _, fun h => absurd h (Nat.lt_irrefl 0)⟩
def hn_st (A3 A4 : Nat → Option Addr) (c3 c4 : Nat → Nat) (m : Nat) : Nat → Value := fun j => match j % 5 with
  | 0 => .int .i64 (if j / 5 < m then 1 + 3 * (j / 5 : Nat) else 0)
  | 1 => .int .i64 (if j / 5 < m then 2 + 3 * (j / 5 : Nat) else 0)
  | 2 => .int .i64 (if j / 5 < m then 3 + 3 * (j / 5 : Nat) else 0)
  | 3 => .slice (A3 (j / 5)) 0 (c3 (j / 5))
  | _ => .slice (A4 (j / 5)) 0 (c4 (j / 5))
def hn_txs (W : World) (g : Nat) (f : Nat → Value) : Prop := ∀ j, j < 20 → W.cell? ⟨g, j, none⟩ = some (f j) ∧ W.frozen? ⟨g, j, none⟩ = false
set_option maxHeartbeats 8000000 in
set_option maxRecDepth 100000 in
theorem hn_mark12 (A : Option Addr) (c : Nat) (k : Int) (w : World) : Calls Try.prog 12 #[.slice A 0 c, .int .i64 k] w fun e w' => e = .returned (.int .i64 k) ∧ w' = w := by
  have hu := Try.underlying22
  go_enter Try.func12, Try.ntmps12
  go_wp2
  go_loopg [1, 5] 0 (fun gg s1 s5 wr => s1 = .int .i64 k ∧ s5 = .int .i64 0 ∧ w = wr)
  case atStart => exact ⟨rfl, rfl, rfl⟩
  case round =>
    obtain ⟨rfl, rfl, rfl⟩ := hrel
    go_wp2
    go_ret
    exact ⟨rfl, rfl⟩
set_option maxHeartbeats 8000000 in
set_option maxRecDepth 100000 in
theorem hn_mark87 (A : Option Addr) (c : Nat) (k : Int) (w : World) : Calls Try.prog 87 #[.slice A 0 c, .int .i64 k] w fun e w' => e = .returned (.int .i64 k) ∧ w' = w := by
  have hu := Try.underlying68
  go_enter Try.func87, Try.ntmps87
  go_wp2
  go_loopg [1, 5] 0 (fun gg s1 s5 wr => s1 = .int .i64 k ∧ s5 = .int .i64 0 ∧ w = wr)
  case atStart => exact ⟨rfl, rfl, rfl⟩
  case round =>
    obtain ⟨rfl, rfl, rfl⟩ := hrel
    go_wp2
    go_ret
    exact ⟨rfl, rfl⟩
set_option maxHeartbeats 8000000 in
set_option maxRecDepth 100000 in
theorem hn_mark42 (A : Option Addr) (c : Nat) (k : Int) (w : World) : Calls Try.prog 42 #[.slice A 0 c, .int .i64 k] w fun e w' => e = .returned (.int .i64 k) ∧ w' = w := by
  have hu := Try.underlying29
  go_enter Try.func42, Try.ntmps42
  go_wp2
  go_loopg [1, 5] 0 (fun gg s1 s5 wr => s1 = .int .i64 k ∧ s5 = .int .i64 0 ∧ w = wr)
  case atStart => exact ⟨rfl, rfl, rfl⟩
  case round =>
    obtain ⟨rfl, rfl, rfl⟩ := hrel
    go_wp2
    go_ret
    exact ⟨rfl, rfl⟩
theorem hn_txs_set {W : World} {g : Nat} {f : Nat → Value} (h : hn_txs W g f) (j : Nat) (hj : j < 20) (v : Value) : hn_txs (W.setCell ⟨g, j, none⟩ v) g (fun i => if i = j then v else f i) := by
  intro i hi
  refine ⟨?_, by rw [World.frozen?_setCell]; exact (h i hi).2⟩
  by_cases e : i = j
  · subst e
    show (W.setCell ⟨g, i, none⟩ v).cell? ⟨g, i, none⟩ = some (if i = i then v else f i)
    rw [if_pos rfl]
    exact World.cell?_setCell_same _ _ _ (h i hi).1
  · show (W.setCell ⟨g, j, none⟩ v).cell? ⟨g, i, none⟩ = some (if i = j then v else f i)
    rw [if_neg e]
    exact (World.cell?_setCell_other _ _ _ _ (by intro he; injection he with _ h2 _; exact e h2.symm)).trans (h i hi).1
theorem hn_txs_congr {W : World} {g : Nat} {f f' : Nat → Value} (h : hn_txs W g f) (he : ∀ i, i < 20 → f i = f' i) : hn_txs W g f' := fun i hi => ⟨by rw [(h i hi).1, he i hi], (h i hi).2⟩
theorem hn_all (P : Nat → Prop) (h : P 0 ∧ P 1 ∧ P 2 ∧ P 3 ∧ P 4 ∧ P 5 ∧ P 6 ∧ P 7 ∧ P 8 ∧ P 9 ∧ P 10 ∧ P 11 ∧ P 12 ∧ P 13 ∧ P 14 ∧ P 15 ∧ P 16 ∧ P 17 ∧ P 18 ∧ P 19) : ∀ i, i < 20 → P i := by
  obtain ⟨h0, h1, h2, h3, h4, h5, h6, h7, h8, h9, h10, h11, h12, h13, h14, h15, h16, h17, h18, h19⟩ := h
  intro i hi
  have : i = 0 ∨ i = 1 ∨ i = 2 ∨ i = 3 ∨ i = 4 ∨ i = 5 ∨ i = 6 ∨ i = 7 ∨ i = 8 ∨ i = 9 ∨ i = 10 ∨ i = 11 ∨ i = 12 ∨ i = 13 ∨ i = 14 ∨ i = 15 ∨ i = 16 ∨ i = 17 ∨ i = 18 ∨ i = 19 := by omega
  rcases this with rfl | rfl | rfl | rfl | rfl | rfl | rfl | rfl | rfl | rfl | rfl | rfl | rfl | rfl | rfl | rfl | rfl | rfl | rfl | rfl <;> assumption
set_option maxHeartbeats 8000000 in
set_option maxRecDepth 100000 in
theorem hn_markTxnS (A3 A4 : Nat → Option Addr) (c3 c4 : Nat → Nat) (g c : Nat) (w0 w : World) (hc : 4 ≤ c) (hB : Below w0.heap.size w0 w) (hg : w0.heap.size ≤ g) (h : hn_txs w g (hn_st A3 A4 c3 c4 0)) :
    Calls Try.prog 43 #[.slice (some ⟨g, 0, none⟩) 4 c, .int .i64 1] w fun e w' => e = .returned (.int .i64 13) ∧ hn_txs w' g (hn_st A3 A4 c3 c4 4) ∧ Below w0.heap.size w0 w' ∧ KeepBut w w' g none := by
  have hu30 := Try.underlying30
  have hu70 := Try.underlying70
  have HT := Aside0.mk h
  have HB := Aside0.mk hB
  clear h hB
  go_enter Try.func43, Try.ntmps43
  go_wp2
  go_loopg [1, 5] 4 (fun gg s1 s5 wr => ∃ kk : Nat, kk ≤ 4 ∧ 4 - kk ≤ gg ∧ s1 = .int .i64 (1 + 3 * kk) ∧ s5 = .int .i64 kk ∧ Aside0 (hn_txs wr g (hn_st A3 A4 c3 c4 kk)) ∧ Aside0 (Below w0.heap.size w0 wr) ∧ Aside0 (KeepBut w wr g none))
  case atStart => exact ⟨0, by omega, by omega, rfl, rfl, HT, HB, ⟨KeepBut.refl _ _ _⟩⟩
  case round =>
    obtain ⟨kk, hkk, hgk, rfl, rfl, HX, HBr, HKr⟩ := hrel
    have hcs : kk = 0 ∨ kk = 1 ∨ kk = 2 ∨ kk = 3 ∨ kk = 4 := by omega
    rcases hcs with rfl | rfl | rfl | rfl | rfl
    · have hc0 : wr.cell? ⟨g, 0, none⟩ = some (.int .i64 0) := (HX.out 0 (by decide)).1
      have hc1 : wr.cell? ⟨g, 1, none⟩ = some (.int .i64 0) := (HX.out 1 (by decide)).1
      have hc2 : wr.cell? ⟨g, 2, none⟩ = some (.int .i64 0) := (HX.out 2 (by decide)).1
      have hc3 : wr.cell? ⟨g, 3, none⟩ = some (.slice (A3 0) 0 (c3 0)) := (HX.out 3 (by decide)).1
      have hc4 : wr.cell? ⟨g, 4, none⟩ = some (.slice (A4 0) 0 (c4 0)) := (HX.out 4 (by decide)).1
      have hf0 : wr.frozen? ⟨g, 0, none⟩ = false := (HX.out 0 (by decide)).2
      have hf1 : wr.frozen? ⟨g, 1, none⟩ = false := (HX.out 1 (by decide)).2
      have hf2 : wr.frozen? ⟨g, 2, none⟩ = false := (HX.out 2 (by decide)).2
      go_wp2_with (first | (go_at_call 12; (with_reducible refine (hn_mark12 _ _ _ _).mono ?_); rintro e w' ⟨rfl, rfl⟩) | (go_at_call 87; (with_reducible refine (hn_mark87 _ _ _ _).mono ?_); rintro e w' ⟨rfl, rfl⟩))
      go_roundg 3
      case measure => omega
      case rel =>
        refine ⟨1, by omega, by omega, by rfl, by rfl, ⟨hn_txs_congr (hn_txs_set (hn_txs_set (hn_txs_set HX.out 0 (by decide) (.int .i64 1)) 1 (by decide) (.int .i64 2)) 2 (by decide) (.int .i64 3)) (hn_all _ ⟨rfl, rfl, rfl, rfl, rfl, rfl, rfl, rfl, rfl, rfl, rfl, rfl, rfl, rfl, rfl, rfl, rfl, rfl, rfl, rfl⟩)⟩, ⟨below_set (below_set (below_set HBr.out hg) hg) hg⟩, ⟨((HKr.out.set_ _ _).set_ _ _).set_ _ _⟩⟩
    · have hc0 : wr.cell? ⟨g, 5, none⟩ = some (.int .i64 0) := (HX.out 5 (by decide)).1
      have hc1 : wr.cell? ⟨g, 6, none⟩ = some (.int .i64 0) := (HX.out 6 (by decide)).1
      have hc2 : wr.cell? ⟨g, 7, none⟩ = some (.int .i64 0) := (HX.out 7 (by decide)).1
      have hc3 : wr.cell? ⟨g, 8, none⟩ = some (.slice (A3 1) 0 (c3 1)) := (HX.out 8 (by decide)).1
      have hc4 : wr.cell? ⟨g, 9, none⟩ = some (.slice (A4 1) 0 (c4 1)) := (HX.out 9 (by decide)).1
      have hf0 : wr.frozen? ⟨g, 5, none⟩ = false := (HX.out 5 (by decide)).2
      have hf1 : wr.frozen? ⟨g, 6, none⟩ = false := (HX.out 6 (by decide)).2
      have hf2 : wr.frozen? ⟨g, 7, none⟩ = false := (HX.out 7 (by decide)).2
      go_wp2_with (first | (go_at_call 12; (with_reducible refine (hn_mark12 _ _ _ _).mono ?_); rintro e w' ⟨rfl, rfl⟩) | (go_at_call 87; (with_reducible refine (hn_mark87 _ _ _ _).mono ?_); rintro e w' ⟨rfl, rfl⟩))
      go_roundg 2
      case measure => omega
      case rel =>
        refine ⟨2, by omega, by omega, by rfl, by rfl, ⟨hn_txs_congr (hn_txs_set (hn_txs_set (hn_txs_set HX.out 5 (by decide) (.int .i64 4)) 6 (by decide) (.int .i64 5)) 7 (by decide) (.int .i64 6)) (hn_all _ ⟨rfl, rfl, rfl, rfl, rfl, rfl, rfl, rfl, rfl, rfl, rfl, rfl, rfl, rfl, rfl, rfl, rfl, rfl, rfl, rfl⟩)⟩, ⟨below_set (below_set (below_set HBr.out hg) hg) hg⟩, ⟨((HKr.out.set_ _ _).set_ _ _).set_ _ _⟩⟩
    · have hc0 : wr.cell? ⟨g, 10, none⟩ = some (.int .i64 0) := (HX.out 10 (by decide)).1
      have hc1 : wr.cell? ⟨g, 11, none⟩ = some (.int .i64 0) := (HX.out 11 (by decide)).1
      have hc2 : wr.cell? ⟨g, 12, none⟩ = some (.int .i64 0) := (HX.out 12 (by decide)).1
      have hc3 : wr.cell? ⟨g, 13, none⟩ = some (.slice (A3 2) 0 (c3 2)) := (HX.out 13 (by decide)).1
      have hc4 : wr.cell? ⟨g, 14, none⟩ = some (.slice (A4 2) 0 (c4 2)) := (HX.out 14 (by decide)).1
      have hf0 : wr.frozen? ⟨g, 10, none⟩ = false := (HX.out 10 (by decide)).2
      have hf1 : wr.frozen? ⟨g, 11, none⟩ = false := (HX.out 11 (by decide)).2
      have hf2 : wr.frozen? ⟨g, 12, none⟩ = false := (HX.out 12 (by decide)).2
      go_wp2_with (first | (go_at_call 12; (with_reducible refine (hn_mark12 _ _ _ _).mono ?_); rintro e w' ⟨rfl, rfl⟩) | (go_at_call 87; (with_reducible refine (hn_mark87 _ _ _ _).mono ?_); rintro e w' ⟨rfl, rfl⟩))
      go_roundg 1
      case measure => omega
      case rel =>
        refine ⟨3, by omega, by omega, by rfl, by rfl, ⟨hn_txs_congr (hn_txs_set (hn_txs_set (hn_txs_set HX.out 10 (by decide) (.int .i64 7)) 11 (by decide) (.int .i64 8)) 12 (by decide) (.int .i64 9)) (hn_all _ ⟨rfl, rfl, rfl, rfl, rfl, rfl, rfl, rfl, rfl, rfl, rfl, rfl, rfl, rfl, rfl, rfl, rfl, rfl, rfl, rfl⟩)⟩, ⟨below_set (below_set (below_set HBr.out hg) hg) hg⟩, ⟨((HKr.out.set_ _ _).set_ _ _).set_ _ _⟩⟩
    · have hc0 : wr.cell? ⟨g, 15, none⟩ = some (.int .i64 0) := (HX.out 15 (by decide)).1
      have hc1 : wr.cell? ⟨g, 16, none⟩ = some (.int .i64 0) := (HX.out 16 (by decide)).1
      have hc2 : wr.cell? ⟨g, 17, none⟩ = some (.int .i64 0) := (HX.out 17 (by decide)).1
      have hc3 : wr.cell? ⟨g, 18, none⟩ = some (.slice (A3 3) 0 (c3 3)) := (HX.out 18 (by decide)).1
      have hc4 : wr.cell? ⟨g, 19, none⟩ = some (.slice (A4 3) 0 (c4 3)) := (HX.out 19 (by decide)).1
      have hf0 : wr.frozen? ⟨g, 15, none⟩ = false := (HX.out 15 (by decide)).2
      have hf1 : wr.frozen? ⟨g, 16, none⟩ = false := (HX.out 16 (by decide)).2
      have hf2 : wr.frozen? ⟨g, 17, none⟩ = false := (HX.out 17 (by decide)).2
      go_wp2_with (first | (go_at_call 12; (with_reducible refine (hn_mark12 _ _ _ _).mono ?_); rintro e w' ⟨rfl, rfl⟩) | (go_at_call 87; (with_reducible refine (hn_mark87 _ _ _ _).mono ?_); rintro e w' ⟨rfl, rfl⟩))
      go_roundg 0
      case measure => omega
      case rel =>
        refine ⟨4, by omega, by omega, by rfl, by rfl, ⟨hn_txs_congr (hn_txs_set (hn_txs_set (hn_txs_set HX.out 15 (by decide) (.int .i64 10)) 16 (by decide) (.int .i64 11)) 17 (by decide) (.int .i64 12)) (hn_all _ ⟨rfl, rfl, rfl, rfl, rfl, rfl, rfl, rfl, rfl, rfl, rfl, rfl, rfl, rfl, rfl, rfl, rfl, rfl, rfl, rfl⟩)⟩, ⟨below_set (below_set (below_set HBr.out hg) hg) hg⟩, ⟨((HKr.out.set_ _ _).set_ _ _).set_ _ _⟩⟩
    · go_wp2
      go_ret
      exact ⟨rfl, HX.out, HBr.out, HKr.out⟩
theorem hn_txs_below {W W1 : World} {g : Nat} {f : Nat → Value} (h : hn_txs W g f) (hb : Below W.heap.size W W1) : hn_txs W1 g f := fun j hj =>
  ⟨pw_cell_below hb (h j hj).1, (hb.frozen (p := ⟨g, j, none⟩) (block_lt_of_cell (h j hj).1)).trans (h j hj).2⟩
theorem hn_lt {W : World} {g : Nat} {f : Nat → Value} (h : hn_txs W g f) : g < W.heap.size := block_lt_of_cell (h 0 (by decide)).1
set_option maxHeartbeats 8000000 in
set_option maxRecDepth 100000 in
theorem hn_markHouse (A3 A4 : Nat → Option Addr) (c3 c4 : Nat → Nat) (A : Option Addr) (cA : Nat) (x : Int) (g c : Nat) (w0 w : World) (hc : 4 ≤ c) (hB : Below w0.heap.size w0 w) (hg : w0.heap.size ≤ g) (h : hn_txs w g (hn_st A3 A4 c3 c4 0)) :
    Calls Try.prog 17 #[.agg #[.slice A 0 cA, .int .i64 x, .slice (some ⟨g, 0, none⟩) 4 c], .int .i64 1] w fun e w' => e = .returned (.int .i64 13) ∧ hn_txs w' g (hn_st A3 A4 c3 c4 4) ∧ Below w0.heap.size w0 w' ∧ KeepBut w w' g none := by
  have hu32 := Try.underlying32
  have hu30 := Try.underlying30
  have hu29 := Try.underlying29
  have HT := Aside0.mk h
  have HB := Aside0.mk hB
  clear h hB
  go_enter Try.func17, Try.ntmps17
  go_wp2_with (first | ((with_reducible refine gate_dst (N := 2) rfl ?_); refine box_event ?hg (N := 2) ?hd (cs := #[.slice A 0 cA, .int .i64 x, .slice (some ⟨g, 0, none⟩) 4 c]) (t := 32) ?hr ?_; (case hd => rfl); (case hg => rfl); (case hr => first | (go_simp; done) | (go_simp; rfl)); intro gb hg w1 hbox hb1; have hcgb_0 : w1.cell? ⟨gb, 0, none⟩ = some (.slice A 0 cA) := (blk_cell hbox 0).trans rfl; have hcgb_1 : w1.cell? ⟨gb, 1, none⟩ = some (.int .i64 x) := (blk_cell hbox 1).trans rfl; have hcgb_2 : w1.cell? ⟨gb, 2, none⟩ = some (.slice (some ⟨g, 0, none⟩) 4 c) := (blk_cell hbox 2).trans rfl; have HBw1 := Aside0.mk hb1; clear hbox hb1 hg) | (go_at_call 42; (with_reducible refine (hn_mark42 _ _ _ _).mono ?_); rintro e w2 ⟨rfl, rfl⟩) | (go_at_call 43; (with_reducible refine (hn_markTxnS A3 A4 c3 c4 g c w0 _ hc (below_step HB.out HBw1.out) hg (hn_txs_below HT.out HBw1.out)).mono ?_); rintro e w3 ⟨rfl, ht3, hb3, hk3⟩; have HT3 := Aside0.mk ht3; have HB3 := Aside0.mk hb3; have HK3 := Aside0.mk hk3; clear ht3 hb3 hk3))
  go_ret
  exact ⟨rfl, HT3.out, HB3.out, (KeepBut.of_below HBw1.out g none).trans HK3.out (.inl rfl)⟩
theorem hn_five {l : List Value} {b : Nat} {v0 v1 v2 v3 v4 : Value} (h : (l.drop b).take 5 = [v0, v1, v2, v3, v4]) : l[b]? = some v0 ∧ l[b + 1]? = some v1 ∧ l[b + 2]? = some v2 ∧ l[b + 3]? = some v3 ∧ l[b + 4]? = some v4 := by
  have e : ∀ t, t < 5 → l[b + t]? = ([v0, v1, v2, v3, v4] : List Value)[t]? := fun t ht => by rw [← h, List.getElem?_take, if_pos ht, List.getElem?_drop]
  exact ⟨e 0 (by decide), e 1 (by decide), e 2 (by decide), e 3 (by decide), e 4 (by decide)⟩
theorem hn_open {W : World} {base : Nat} {ok : Nat → Prop} {v : Value} (hR : Kd.R k70 70 W base ok v [z70, z70, z70, z70]) :
    ∃ g c A3 A4 c3 c4, v = .slice (some ⟨g, 0, none⟩) 4 c ∧ 4 ≤ c ∧ base ≤ g ∧ hn_txs W g (hn_st A3 A4 c3 c4 0) := by
  obtain ⟨_, inner, ⟨_, hown⟩, hrep⟩ := hR
  rcases hown with ⟨_, h0⟩ | ⟨g, cap, cur, hv, hg, hheap, hn, hcm, hcs, htk⟩
  · cases h0
  have key : ∀ i, i < 4 → ∃ a3 a4 d3 d4, inner[5 * i]? = some (.int .i64 0) ∧ inner[5 * i + 1]? = some (.int .i64 0) ∧ inner[5 * i + 2]? = some (.int .i64 0) ∧ inner[5 * i + 3]? = some (.slice a3 0 d3) ∧ inner[5 * i + 4]? = some (.slice a4 0 d4) := by
    intro i hi
    have hz : ([z70, z70, z70, z70] : List S70)[i]? = some z70 := by
      have : i = 0 ∨ i = 1 ∨ i = 2 ∨ i = 3 := by omega
      rcases this with rfl | rfl | rfl | rfl <;> rfl
    have hM := hrep.2 i z70 hz
    obtain ⟨v3, v4, he, h3, h4⟩ := k70_openM hM
    obtain ⟨a3, d3, e3⟩ := Kd.R_slice h3
    obtain ⟨a4, d4, e4⟩ := Kd.R_slice h4
    subst e3 e4
    have he' : (inner.drop (i * 5)).take 5 = [.int .i64 0, .int .i64 0, .int .i64 0, .slice a3 0 d3, .slice a4 0 d4] := he
    rw [Nat.mul_comm] at he'
    exact ⟨a3, a4, d3, d4, hn_five he'⟩
  have hcur : ∀ j v, j < 20 → inner[j]? = some v → cur[j]? = some v := by
    intro j v hj hi
    have htk' : cur.toList.take 20 = inner := htk
    rw [← htk', List.getElem?_take, if_pos hj, Array.getElem?_toList] at hi
    exact hi
  obtain ⟨a0, b0, p0, q0, x0, x1, x2, x3, x4⟩ := key 0 (by decide)
  obtain ⟨a1, b1, p1, q1, y0, y1, y2, y3, y4⟩ := key 1 (by decide)
  obtain ⟨a2, b2, p2, q2, z0, z1, z2, z3, z4⟩ := key 2 (by decide)
  obtain ⟨a3, b3, p3, q3, u0, u1, u2, u3, u4⟩ := key 3 (by decide)
  have at_ : ∀ j v, j < 20 → inner[j]? = some v → W.cell? ⟨g, j, none⟩ = some v ∧ W.frozen? ⟨g, j, none⟩ = false := fun j v hj hi => ⟨(blk_cell hheap j).trans (hcur j v hj hi), blk_frozen hheap _⟩
  refine ⟨g, cap, fun i => match i with | 0 => a0 | 1 => a1 | 2 => a2 | _ => a3, fun i => match i with | 0 => b0 | 1 => b1 | 2 => b2 | _ => b3, fun i => match i with | 0 => p0 | 1 => p1 | 2 => p2 | _ => p3, fun i => match i with | 0 => q0 | 1 => q1 | 2 => q2 | _ => q3, hv, hn, hg, ?_⟩
  refine hn_all _ ⟨at_ 0 _ (by decide) x0, at_ 1 _ (by decide) x1, at_ 2 _ (by decide) x2, at_ 3 _ (by decide) x3, at_ 4 _ (by decide) x4, at_ 5 _ (by decide) y0, at_ 6 _ (by decide) y1, at_ 7 _ (by decide) y2, at_ 8 _ (by decide) y3, at_ 9 _ (by decide) y4, at_ 10 _ (by decide) z0, at_ 11 _ (by decide) z1, at_ 12 _ (by decide) z2, at_ 13 _ (by decide) z3, at_ 14 _ (by decide) z4, at_ 15 _ (by decide) u0, at_ 16 _ (by decide) u1, at_ 17 _ (by decide) u2, at_ 18 _ (by decide) u3, at_ 19 _ (by decide) u4⟩
def hn_marked : List S70 := [⟨1, 2, 3, [], []⟩, ⟨4, 5, 6, [], []⟩, ⟨7, 8, 9, [], []⟩, ⟨10, 11, 12, [], []⟩]
theorem hn_C {W : World} {g : Nat} {A3 A4 : Nat → Option Addr} {c3 c4 : Nat → Nat} (h : hn_txs W g (hn_st A3 A4 c3 c4 4)) : Kd.C k70 W (some ⟨g, 0, none⟩) hn_marked.length hn_marked := by
  refine ⟨rfl, by decide, fun _ => ⟨_, rfl, fun j p hj => ?_⟩⟩
  have hj4 : j < 4 := (List.getElem?_eq_some_iff.1 hj).1
  have row : ∀ i (p : S70) (v0 v1 v2 : Int), i < 4 → p = ⟨v0, v1, v2, [], []⟩ → hn_st A3 A4 c3 c4 4 (5 * i) = .int .i64 v0 → hn_st A3 A4 c3 c4 4 (5 * i + 1) = .int .i64 v1 → hn_st A3 A4 c3 c4 4 (5 * i + 2) = .int .i64 v2 → hn_st A3 A4 c3 c4 4 (5 * i + 3) = .slice (A3 i) 0 (c3 i) → hn_st A3 A4 c3 c4 4 (5 * i + 4) = .slice (A4 i) 0 (c4 i) →
      ∃ c, c.length = k70.sz ∧ k70.K W p c ∧ ∀ t u, c[t]? = some u → W.cell? ((⟨g, 0, none⟩ : Addr).add (i * k70.sz + t)) = some u := by
    intro i p v0 v1 v2 hi hp e0 e1 e2 e3 e4
    subst hp
    refine ⟨[.int .i64 v0, .int .i64 v1, .int .i64 v2, .slice (A3 i) 0 (c3 i), .slice (A4 i) 0 (c4 i)], rfl, k70_mk W ⟨v0, v1, v2, [], []⟩ (Nat.zero_le _) (hn_nil _ _ _) (Nat.zero_le _) (hn_nil _ _ _), fun t u ht => ?_⟩
    have ht5 : t < 5 := (List.getElem?_eq_some_iff.1 ht).1
    rw [Addr.add_lit, Nat.zero_add, show i * k70.sz + t = 5 * i + t by rw [show k70.sz = 5 from rfl]; omega, (h (5 * i + t) (by omega)).1]
    have : t = 0 ∨ t = 1 ∨ t = 2 ∨ t = 3 ∨ t = 4 := by omega
    rcases this with rfl | rfl | rfl | rfl | rfl
    · rw [Nat.add_zero, e0]; exact ht
    · rw [e1]; exact ht
    · rw [e2]; exact ht
    · rw [e3]; exact ht
    · rw [e4]; exact ht
  have hcs : j = 0 ∨ j = 1 ∨ j = 2 ∨ j = 3 := by omega
  rcases hcs with rfl | rfl | rfl | rfl
  · exact row 0 p 1 2 3 (by decide) (Option.some.inj hj).symm rfl rfl rfl rfl rfl
  · exact row 1 p 4 5 6 (by decide) (Option.some.inj hj).symm rfl rfl rfl rfl rfl
  · exact row 2 p 7 8 9 (by decide) (Option.some.inj hj).symm rfl rfl rfl rfl rfl
  · exact row 3 p 10 11 12 (by decide) (Option.some.inj hj).symm rfl rfl rfl rfl rfl
theorem hn_size (w : World) (o : Obj) : (w.alloc o).heap.size = w.heap.size + 1 := by unfold World.alloc; exact Array.size_push _
set_option maxHeartbeats 16000000 in
set_option maxRecDepth 100000 in
theorem hn_law (a0 : Int) (w : World) : Calls Try.prog 4 #[.int .i64 a0] w fun e w' => e = .returned (.bool true) ∧ Below w.heap.size w w' := by
  have hu32 := Try.underlying32
  have HSP : Aside0 (spec_HouseNew.f a0 = some ([], 0, [z70, z70, z70, z70])) := ⟨rfl⟩
  have HIM : Aside0 (impl_HouseNew.f a0 = some ([], 0, [z70, z70, z70, z70])) := ⟨by unfold impl_HouseNew.f; rw [if_pos (by decide)]; rfl⟩
  have HEQ : Aside0 (laws_eqHouse.f 100 [] 0 [z70, z70, z70, z70] [] 0 [z70, z70, z70, z70] = some true) := ⟨by first | rfl | decide +kernel⟩
  have HHE : Aside0 (laws_heldHouse.f 100 [] 0 hn_marked 1 = some 13) := ⟨by first | rfl | decide +kernel⟩
  have ST0 := True.intro
  go_enter Try.func4, Try.ntmps4
  go_wp2_with (first | (have hck_ := ST7; clear hck_; go_at_call 18; refine calls_of_args (args' := #[.agg #[.slice B0 ([] : List S106).length d0, .int .i64 0, .slice (some ⟨g, 0, none⟩) hn_marked.length c], .int .i64 1]) (by rfl) ?_; (with_reducible refine (laws_heldHouse.calls 100 B0 d0 [] 0 (some ⟨g, 0, none⟩) c hn_marked 1 13 _ (hn_nil _ _ _) (Nat.zero_le _) (hn_C HT.out) ?s4 HHE.out).mono ?_); (case s4 => exact HC4.out); rintro e w8 ⟨rfl, hb⟩; have n_ : w8.cell? ⟨w1.heap.size, 0, none⟩ = some (.slice A0 0 c0) := pw_cell_below hb h3_0; clear h3_0; have h3_0 := n_; clear n_; have n_ : w8.cell? ⟨w1.heap.size, 1, none⟩ = some (.int .i64 0) := pw_cell_below hb h3_1; clear h3_1; have h3_1 := n_; clear n_; have n_ : w8.cell? ⟨w1.heap.size, 2, none⟩ = some (.slice A2 4 c2) := pw_cell_below hb h3_2; clear h3_2; have h3_2 := n_; clear n_; have n_ : w8.cell? ⟨w2.heap.size, 0, none⟩ = some (.slice B0 0 d0) := pw_cell_below hb h4_0; clear h4_0; have h4_0 := n_; clear n_; have n_ : w8.cell? ⟨w2.heap.size, 1, none⟩ = some (.int .i64 0) := pw_cell_below hb h4_1; clear h4_1; have h4_1 := n_; clear n_; have n_ : w8.cell? ⟨w2.heap.size, 2, none⟩ = some (.slice (some ⟨g, 0, none⟩) 4 c) := pw_cell_below hb h4_2; clear h4_2; have h4_2 := n_; clear n_; have n_ := Aside0.mk (Kd.R_below HR1.out hb); clear HR1; have HR1 := n_; clear n_; have n_ := Aside0.mk (hn_txs_below HT.out hb); clear HT; have HT := n_; clear n_; have n_ := Aside0.mk (below_step HB.out hb); clear HB; have HB := n_; clear n_; clear hb; have ST8 := True.intro) | (have hck_ := ST6; clear hck_; go_at_call 16; refine calls_of_args (args' := #[.agg #[.slice F0 ([] : List S106).length f0, .int .i64 0, .slice F2 ([z70, z70, z70, z70] : List S70).length f2], .agg #[.slice A0 ([] : List S106).length c0, .int .i64 0, .slice A2 ([z70, z70, z70, z70] : List S70).length c2]]) (by rfl) ?_; (with_reducible refine (laws_eqHouse.calls 100 F0 f0 [] 0 F2 f2 [z70, z70, z70, z70] A0 c0 [] 0 A2 c2 [z70, z70, z70, z70] true _ (hn_nil _ _ _) (Nat.zero_le _) ?s1 ?s2 (hn_nil _ _ _) (Nat.zero_le _) ?s3 ?s4 HEQ.out).mono ?_); (case s1 => exact Kd.C_alloc HRF.out _); (case s2 => exact HCF.out); (case s3 => exact Kd.C_alloc (Kd.R_reads' HR1.out).2.2 _); (case s4 => exact (Kd.R_reads' HR1.out).2.1); rintro e w7 ⟨rfl, hb⟩; have hbx := below_step (below_alloc (Below.refl w6.heap.size w6) _) hb; clear h3a_0 h3a_1 h3a_2; clear h4a_0 h4a_1 h4a_2; have n_ : w7.cell? ⟨w1.heap.size, 0, none⟩ = some (.slice A0 0 c0) := pw_cell_below hbx h3_0; clear h3_0; have h3_0 := n_; clear n_; have n_ : w7.cell? ⟨w1.heap.size, 1, none⟩ = some (.int .i64 0) := pw_cell_below hbx h3_1; clear h3_1; have h3_1 := n_; clear n_; have n_ : w7.cell? ⟨w1.heap.size, 2, none⟩ = some (.slice A2 4 c2) := pw_cell_below hbx h3_2; clear h3_2; have h3_2 := n_; clear n_; have n_ : w7.cell? ⟨w2.heap.size, 0, none⟩ = some (.slice B0 0 d0) := pw_cell_below hbx h4_0; clear h4_0; have h4_0 := n_; clear n_; have n_ : w7.cell? ⟨w2.heap.size, 1, none⟩ = some (.int .i64 0) := pw_cell_below hbx h4_1; clear h4_1; have h4_1 := n_; clear n_; have n_ : w7.cell? ⟨w2.heap.size, 2, none⟩ = some (.slice (some ⟨g, 0, none⟩) 4 c) := pw_cell_below hbx h4_2; clear h4_2; have h4_2 := n_; clear n_; have n_ := Aside0.mk (Kd.R_below HR1.out hbx); clear HR1; have HR1 := n_; clear n_; have n_ := Aside0.mk (hn_txs_below HT.out hbx); clear HT; have HT := n_; clear n_; have n_ := Aside0.mk (below_step HB.out hbx); clear HB; have HB := n_; clear n_; clear hb hbx; have ST7 := True.intro) | (have hck_ := ST5; clear hck_; go_at_call 15; (with_reducible refine (impl_HouseNew.calls a0 [] 0 [z70, z70, z70, z70] _ HIM.out).mono ?_); rintro e w6 ⟨v0, v2, rfl, hs6, hr6, hb⟩; obtain ⟨F0, f0, e0⟩ := Kd.S_slice hs6; have e0' : v0 = .slice F0 0 f0 := e0; subst e0'; obtain ⟨F2, f2, e2⟩ := Kd.R_slice hr6; have e2' : v2 = .slice F2 4 f2 := e2; subst e2'; have HRF := Aside0.mk (Kd.R_reads' hr6).2.2; have HCF := Aside0.mk (Kd.R_reads' hr6).2.1; have n_ : w6.cell? ⟨w1.heap.size, 0, none⟩ = some (.slice A0 0 c0) := pw_cell_below hb h3_0; clear h3_0; have h3_0 := n_; clear n_; have n_ : w6.cell? ⟨w1.heap.size, 1, none⟩ = some (.int .i64 0) := pw_cell_below hb h3_1; clear h3_1; have h3_1 := n_; clear n_; have n_ : w6.cell? ⟨w1.heap.size, 2, none⟩ = some (.slice A2 4 c2) := pw_cell_below hb h3_2; clear h3_2; have h3_2 := n_; clear n_; have n_ : w6.cell? ⟨w2.heap.size, 0, none⟩ = some (.slice B0 0 d0) := pw_cell_below hb h4_0; clear h4_0; have h4_0 := n_; clear n_; have n_ : w6.cell? ⟨w2.heap.size, 1, none⟩ = some (.int .i64 0) := pw_cell_below hb h4_1; clear h4_1; have h4_1 := n_; clear n_; have n_ : w6.cell? ⟨w2.heap.size, 2, none⟩ = some (.slice (some ⟨g, 0, none⟩) 4 c) := pw_cell_below hb h4_2; clear h4_2; have h4_2 := n_; clear n_; have h3a_0 : ∀ o, (w6.alloc o).cell? ⟨w1.heap.size, 0, none⟩ = some (.slice A0 0 c0) := fun o => pw_cell_below (below_alloc (Below.refl _ _) o) h3_0; have h3a_1 : ∀ o, (w6.alloc o).cell? ⟨w1.heap.size, 1, none⟩ = some (.int .i64 0) := fun o => pw_cell_below (below_alloc (Below.refl _ _) o) h3_1; have h3a_2 : ∀ o, (w6.alloc o).cell? ⟨w1.heap.size, 2, none⟩ = some (.slice A2 4 c2) := fun o => pw_cell_below (below_alloc (Below.refl _ _) o) h3_2; have h4a_0 : ∀ o, (w6.alloc o).cell? ⟨w2.heap.size, 0, none⟩ = some (.slice B0 0 d0) := fun o => pw_cell_below (below_alloc (Below.refl _ _) o) h4_0; have h4a_1 : ∀ o, (w6.alloc o).cell? ⟨w2.heap.size, 1, none⟩ = some (.int .i64 0) := fun o => pw_cell_below (below_alloc (Below.refl _ _) o) h4_1; have h4a_2 : ∀ o, (w6.alloc o).cell? ⟨w2.heap.size, 2, none⟩ = some (.slice (some ⟨g, 0, none⟩) 4 c) := fun o => pw_cell_below (below_alloc (Below.refl _ _) o) h4_2; have n_ := Aside0.mk (Kd.R_below HR1.out hb); clear HR1; have HR1 := n_; clear n_; have n_ := Aside0.mk (hn_txs_below HT.out hb); clear HT; have HT := n_; clear n_; have n_ := Aside0.mk (below_step HB.out hb); clear HB; have HB := n_; clear n_; clear e0 e2 hs6 hr6 hb; have ST6 := True.intro) | (have hck_ := ST4; clear hck_; go_at_call 18; refine calls_of_args (args' := #[.agg #[.slice B0 ([] : List S106).length d0, .int .i64 0, .slice (some ⟨g, 0, none⟩) hn_marked.length c], .int .i64 1]) (by rfl) ?_; (with_reducible refine (laws_heldHouse.calls 100 B0 d0 [] 0 (some ⟨g, 0, none⟩) c hn_marked 1 13 _ (hn_nil _ _ _) (Nat.zero_le _) (hn_C HT.out) ?s4 HHE.out).mono ?_); (case s4 => exact HC4.out); rintro e w5 ⟨rfl, hb⟩; have n_ : w5.cell? ⟨w1.heap.size, 0, none⟩ = some (.slice A0 0 c0) := pw_cell_below hb h3_0; clear h3_0; have h3_0 := n_; clear n_; have n_ : w5.cell? ⟨w1.heap.size, 1, none⟩ = some (.int .i64 0) := pw_cell_below hb h3_1; clear h3_1; have h3_1 := n_; clear n_; have n_ : w5.cell? ⟨w1.heap.size, 2, none⟩ = some (.slice A2 4 c2) := pw_cell_below hb h3_2; clear h3_2; have h3_2 := n_; clear n_; have n_ : w5.cell? ⟨w2.heap.size, 0, none⟩ = some (.slice B0 0 d0) := pw_cell_below hb h4_0; clear h4_0; have h4_0 := n_; clear n_; have n_ : w5.cell? ⟨w2.heap.size, 1, none⟩ = some (.int .i64 0) := pw_cell_below hb h4_1; clear h4_1; have h4_1 := n_; clear n_; have n_ : w5.cell? ⟨w2.heap.size, 2, none⟩ = some (.slice (some ⟨g, 0, none⟩) 4 c) := pw_cell_below hb h4_2; clear h4_2; have h4_2 := n_; clear n_; have n_ := Aside0.mk (Kd.R_below HR1.out hb); clear HR1; have HR1 := n_; clear n_; have n_ := Aside0.mk (hn_txs_below HT.out hb); clear HT; have HT := n_; clear n_; have n_ := Aside0.mk (below_step HB.out hb); clear HB; have HB := n_; clear n_; clear hb; have ST5 := True.intro) | (have hck_ := ST3; clear hck_; go_at_call 17; (with_reducible refine (hn_markHouse A3 A4 c3 c4 B0 d0 0 g c w _ HC4.out HB.out ?sg HT.out).mono ?_); (case sg => have h1_ := HG1.out; have h2_ := HSZ1.out; omega); rintro e w4 ⟨rfl, ht4, hb4, hk4⟩; have n_ : w4.cell? ⟨w1.heap.size, 0, none⟩ = some (.slice A0 0 c0) := keep_cell hk4 h3_0 (by have h1_ := HG1.out; show w1.heap.size ≠ g; omega); clear h3_0; have h3_0 := n_; clear n_; have n_ : w4.cell? ⟨w1.heap.size, 1, none⟩ = some (.int .i64 0) := keep_cell hk4 h3_1 (by have h1_ := HG1.out; show w1.heap.size ≠ g; omega); clear h3_1; have h3_1 := n_; clear n_; have n_ : w4.cell? ⟨w1.heap.size, 2, none⟩ = some (.slice A2 4 c2) := keep_cell hk4 h3_2 (by have h1_ := HG1.out; show w1.heap.size ≠ g; omega); clear h3_2; have h3_2 := n_; clear n_; have n_ : w4.cell? ⟨w2.heap.size, 0, none⟩ = some (.slice B0 0 d0) := keep_cell hk4 h4_0 (by have h1_ := HG2.out; show w2.heap.size ≠ g; omega); clear h4_0; have h4_0 := n_; clear n_; have n_ : w4.cell? ⟨w2.heap.size, 1, none⟩ = some (.int .i64 0) := keep_cell hk4 h4_1 (by have h1_ := HG2.out; show w2.heap.size ≠ g; omega); clear h4_1; have h4_1 := n_; clear n_; have n_ : w4.cell? ⟨w2.heap.size, 2, none⟩ = some (.slice (some ⟨g, 0, none⟩) 4 c) := keep_cell hk4 h4_2 (by have h1_ := HG2.out; show w2.heap.size ≠ g; omega); clear h4_2; have h4_2 := n_; clear n_; have n_ := Aside0.mk (Kd.R_keep HR1.out hk4 (fun q_ hq_ => by have h1_ := HG1.out; omega)); clear HR1; have HR1 := n_; clear n_; clear HT; have HT := Aside0.mk ht4; clear HB; have HB := Aside0.mk hb4; clear ht4 hb4 hk4; have ST4 := True.intro) | (have hck_ := ST2; clear hck_; go_at_call 16; refine calls_of_args (args' := #[.agg #[.slice B0 ([] : List S106).length d0, .int .i64 0, .slice (some ⟨g, 0, none⟩) ([z70, z70, z70, z70] : List S70).length c], .agg #[.slice A0 ([] : List S106).length c0, .int .i64 0, .slice A2 ([z70, z70, z70, z70] : List S70).length c2]]) (by rfl) ?_; (with_reducible refine (laws_eqHouse.calls 100 B0 d0 [] 0 (some ⟨g, 0, none⟩) c [z70, z70, z70, z70] A0 c0 [] 0 A2 c2 [z70, z70, z70, z70] true _ (hn_nil _ _ _) (Nat.zero_le _) ?s1 ?s2 (hn_nil _ _ _) (Nat.zero_le _) ?s3 ?s4 HEQ.out).mono ?_); (case s1 => exact Kd.C_alloc HRG.out _); (case s2 => exact HC4.out); (case s3 => exact Kd.C_alloc (Kd.R_reads' HR1.out).2.2 _); (case s4 => exact (Kd.R_reads' HR1.out).2.1); rintro e w3 ⟨rfl, hb⟩; have hbx := below_step (below_alloc (Below.refl w2.heap.size w2) _) hb; have h4_0 : w3.cell? ⟨w2.heap.size, 0, none⟩ = some (.slice B0 0 d0) := (blk_cell (blk_below (heap_alloc_new w2 (.cells #[.slice B0 0 d0, .int .i64 0, .slice (some ⟨g, 0, none⟩) 4 c] 32)) hb) 0).trans rfl; have h4_1 : w3.cell? ⟨w2.heap.size, 1, none⟩ = some (.int .i64 0) := (blk_cell (blk_below (heap_alloc_new w2 (.cells #[.slice B0 0 d0, .int .i64 0, .slice (some ⟨g, 0, none⟩) 4 c] 32)) hb) 1).trans rfl; have h4_2 : w3.cell? ⟨w2.heap.size, 2, none⟩ = some (.slice (some ⟨g, 0, none⟩) 4 c) := (blk_cell (blk_below (heap_alloc_new w2 (.cells #[.slice B0 0 d0, .int .i64 0, .slice (some ⟨g, 0, none⟩) 4 c] 32)) hb) 2).trans rfl; clear h3a_0 h3a_1 h3a_2; have n_ : w3.cell? ⟨w1.heap.size, 0, none⟩ = some (.slice A0 0 c0) := pw_cell_below hbx h3_0; clear h3_0; have h3_0 := n_; clear n_; have n_ : w3.cell? ⟨w1.heap.size, 1, none⟩ = some (.int .i64 0) := pw_cell_below hbx h3_1; clear h3_1; have h3_1 := n_; clear n_; have n_ : w3.cell? ⟨w1.heap.size, 2, none⟩ = some (.slice A2 4 c2) := pw_cell_below hbx h3_2; clear h3_2; have h3_2 := n_; clear n_; have n_ := Aside0.mk (Kd.R_below HR1.out hbx); clear HR1; have HR1 := n_; clear n_; have n_ := Aside0.mk (hn_txs_below HT.out hbx); clear HT; have HT := n_; clear n_; have n_ := Aside0.mk (below_step HB.out hbx); clear HB; have HB := n_; clear n_; clear hb hbx; have ST3 := True.intro) | (have hck_ := ST1; clear hck_; go_at_call 15; (with_reducible refine (impl_HouseNew.calls a0 [] 0 [z70, z70, z70, z70] _ HIM.out).mono ?_); rintro e w2 ⟨v0, v2, rfl, hs2, hr2, hb2⟩; obtain ⟨B0, d0, e0⟩ := Kd.S_slice hs2; have e0' : v0 = .slice B0 0 d0 := e0; subst e0'; obtain ⟨g, c, A3, A4, c3, c4, e2, hc4, hgb, ht2⟩ := hn_open hr2; subst e2; have HG1 : Aside0 (w1.heap.size < g) := ⟨by have h_ := hgb; rw [hn_size] at h_; omega⟩; have HG2 := Aside0.mk (hn_lt ht2); have HT := Aside0.mk ht2; have HC4 := Aside0.mk hc4; have HRG := Aside0.mk (Kd.R_reads' hr2).2.2; have h3_0 : w2.cell? ⟨w1.heap.size, 0, none⟩ = some (.slice A0 0 c0) := (blk_cell (blk_below (heap_alloc_new w1 (.cells #[.slice A0 0 c0, .int .i64 0, .slice A2 4 c2] 32)) hb2) 0).trans rfl; have h3_1 : w2.cell? ⟨w1.heap.size, 1, none⟩ = some (.int .i64 0) := (blk_cell (blk_below (heap_alloc_new w1 (.cells #[.slice A0 0 c0, .int .i64 0, .slice A2 4 c2] 32)) hb2) 1).trans rfl; have h3_2 : w2.cell? ⟨w1.heap.size, 2, none⟩ = some (.slice A2 4 c2) := (blk_cell (blk_below (heap_alloc_new w1 (.cells #[.slice A0 0 c0, .int .i64 0, .slice A2 4 c2] 32)) hb2) 2).trans rfl; have h3a_0 : ∀ o, (w2.alloc o).cell? ⟨w1.heap.size, 0, none⟩ = some (.slice A0 0 c0) := fun o => pw_cell_below (below_alloc (Below.refl _ _) o) h3_0; have h3a_1 : ∀ o, (w2.alloc o).cell? ⟨w1.heap.size, 1, none⟩ = some (.int .i64 0) := fun o => pw_cell_below (below_alloc (Below.refl _ _) o) h3_1; have h3a_2 : ∀ o, (w2.alloc o).cell? ⟨w1.heap.size, 2, none⟩ = some (.slice A2 4 c2) := fun o => pw_cell_below (below_alloc (Below.refl _ _) o) h3_2; have hbx := below_step (below_alloc (Below.refl w1.heap.size w1) (.cells #[.slice A0 0 c0, .int .i64 0, .slice A2 4 c2] 32)) hb2; have n_ := Aside0.mk (Kd.R_below HR1.out hbx); clear HR1; have HR1 := n_; clear n_; have n_ := Aside0.mk (below_step HB.out hbx); clear HB; have HB := n_; clear n_; clear e0 hs2 hr2 hb2 hc4 hgb ht2 hbx; have ST2 := True.intro) | (have hck_ := ST0; clear hck_; go_at_call 14; (with_reducible refine (spec_HouseNew.calls a0 [] 0 [z70, z70, z70, z70] _ HSP.out).mono ?_); rintro e w1 ⟨v0, v2, rfl, hs1, hr1, hb1⟩; obtain ⟨A0, c0, e0⟩ := Kd.S_slice hs1; have e0' : v0 = .slice A0 0 c0 := e0; subst e0'; obtain ⟨A2, c2, e2⟩ := Kd.R_slice hr1; have e2' : v2 = .slice A2 4 c2 := e2; subst e2'; have HR1 := Aside0.mk (Kd.R_mono (ok' := fun q_ => q_ < w1.heap.size) (Kd.R_bound hr1) (fun q_ hq_ => hq_.2.2.1)); have HB := Aside0.mk hb1; have HSZ1 := Aside0.mk (below_size hb1); clear e0 e2 hs1 hr1 hb1; have ST1 := True.intro))
  go_ret
  exact ⟨rfl, HB.out⟩
def laws_FnExactHouseNew.f (a0 : Int) : Option Bool := some true
theorem laws_FnExactHouseNew.calls (a0 : Int) (r : Bool) (w : World) (h : laws_FnExactHouseNew.f a0 = some r) :
    Calls Try.prog 4 #[.int .i64 a0] w fun e w' => e = .returned (.bool r) ∧ Below w.heap.size w w' := by
  obtain rfl := Option.some.inj h
  exact hn_law a0 w

/-- THE ONE PURE STATEMENT of laws_FnExactHouseNew. -/
def laws_FnExactHouseNew.Pure : Prop := ∀ (a0 : Int), ((Lit.int .i64 a0).wf = true) → laws_FnExactHouseNew.f a0 = some true
end

end Go.Proofs.Ytalhkihppcjanaa.X
