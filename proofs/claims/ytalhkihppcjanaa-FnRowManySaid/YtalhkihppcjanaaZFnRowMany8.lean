/- Plain functions for the Go functions of this seat, and proofs that each call answers as its plain function does; made by this session's program over the kit's printer. -/
import Derived.Test.YtalhkihppcjanaaUX0
import Derived.Test.YtalhkihppcjanaaZFnRowMany7
namespace Go.Proofs.Ytalhkihppcjanaa.X
open Go.RowKit Go.Proofs.YtalhkihppcjanaaV.PrintWords Go.Proofs.YtalhkihppcjanaaV.PrintLast Go.Proofs.YtalhkihppcjanaaV.PrintMore
attribute [local go_sem] max2_int min2_int max_two min_two max_three min_three max_four min_four   -- for this text's walks alone
set_option linter.unusedVariables false
set_option linter.unusedSimpArgs false

open Go.Proofs.YtalhkihppcjanaaV.PrintWords renaming below_alloc → zU, pw_below_drewN → zV, below_drew1 → zW, blk_drewN → zX, blk_drew → zY, blk_alloc → zZ, blk_frozen → zF, blk_cell → zK, below_step → zG, below_set → zH, below_size → zI, blk_below → zJ
open Go.Proofs.YtalhkihppcjanaaV.PrintWords.Kd renaming R_alloc → zR, R_drewN → zS, R_drew → zT, C_alloc → zQ, C_drewN → zO, C_drew → zP
section
/-! ### laws_FnRowMany: function 5 -/
def laws_FnRowMany.l0 : Nat → List (List (S83)) → List (S83) → Int → Int → List (List (S83)) → Int → Int → Option (Bool)
 | 0, _, _, _, _, _, _, _ => none
 | k + 1, x3, x4, x5, x6, x7, x8, x9 => if x9 < (x7.length : Int) then (if 0 ≤ x9 then ((impl_RowMany.f k x3 (rd_L4 x7 x9)).bind fun t483 => (laws_FnRowMany.l0 k x3 x4 x5 x6 x7 (wrap64 (x8 + t483)) (wrap64 (x9 + 1)))) else (none)) else ((some (([] : List (List (S83))) : List (List (S83)))).bind fun y484 => (if 0 ≤ x6 then (if x6 ≤ (x3.length : Int) then ((some (x3.take (x6 : Int).toNat : List (List (S83)))).bind fun y487 => (if y484.length + y487.length < 5864062014805 then ((impl_RowMany.f k (y484 ++ y487) x4).bind fun t495 => ((some (([] : List (List (S83))) : List (List (S83)))).bind fun y496 => ((some (x3.drop (x6 : Int).toNat : List (List (S83)))).bind fun y499 => (if y496.length + y499.length < 5864062014805 then ((impl_RowMany.f k (y496 ++ y499) x4).bind fun t507 => (if x5 = (wrap64 (t495 + t507)) then (if x8 = (x3.length : Int) then ((laws_alive.f).bind fun t508 => (some t508)) else (some false)) else (some false))) else (none))))) else (none))) else (none)) else (none)))
def laws_FnRowMany.f (k : Nat) (l0 : List Int) : Option (Bool) := if (l0.length : Int) > 1048576 then (some true) else ((spec_DrawRowMany.f k l0).bind fun bt471 => ((impl_RowMany.f k bt471.1 bt471.2).bind fun t477 => ((spec_RowMany.f k bt471.1 bt471.2).bind fun t478 => (if t477 = t478 then ((impl_RowsOnce.f k bt471.1).bind fun t479 => (laws_FnRowMany.l0 k bt471.1 bt471.2 t477 (wrap64 ((bt471.1.length : Int) / 2)) t479 0 0)) else (some false)))))
theorem laws_FnRowMany.mono_l : ∀ k, (∀ y0 y1 y2 y3 y4 y5 y6, LeO (laws_FnRowMany.l0 k y0 y1 y2 y3 y4 y5 y6) (laws_FnRowMany.l0 (k + 1) y0 y1 y2 y3 y4 y5 y6))
 | 0 => fun _ _ _ _ _ _ _ r h => by simp [laws_FnRowMany.l0] at h
 | k + 1 => by
  have ih0 := laws_FnRowMany.mono_l k
  ·
   intro y0 y1 y2 y3 y4 y5 y6
   unfold laws_FnRowMany.l0
   repeat' first
   | (with_reducible exact ih0 _ _ _ _ _ _ _)
   | (with_reducible exact impl_RowMany.mono _ _ _)
   | (with_reducible exact impl_RowsOnce.mono _ _)
   | (with_reducible exact spec_DrawRowMany.mono _ _)
   | (with_reducible exact spec_RowMany.mono _ _ _)
   | (with_reducible exact LeO.refl _)
   | (with_reducible exact LeO.none _)
   | (with_reducible refine LeO.ite ?_ ?_)
   | (with_reducible refine LeO.bind ?_ (fun _ => ?_))
   | exact ih0 _ _ _ _ _ _ _
   | exact impl_RowMany.mono _ _ _
   | exact impl_RowsOnce.mono _ _
   | exact spec_DrawRowMany.mono _ _
   | exact spec_RowMany.mono _ _ _
   | exact LeO.none _
   | refine LeO.ite ?_ ?_
   | refine LeO.bind ?_ (fun _ => ?_)
theorem laws_FnRowMany.mono : ∀ a0 k, LeO (laws_FnRowMany.f k a0) (laws_FnRowMany.f (k + 1) a0) := by
 intro a0 k
 have ih0 := laws_FnRowMany.mono_l k
 unfold laws_FnRowMany.f
 repeat' first
   | (with_reducible exact ih0 _ _ _ _ _ _ _)
   | (with_reducible exact impl_RowMany.mono _ _ _)
   | (with_reducible exact impl_RowsOnce.mono _ _)
   | (with_reducible exact spec_DrawRowMany.mono _ _)
   | (with_reducible exact spec_RowMany.mono _ _ _)
   | (with_reducible exact LeO.refl _)
   | (with_reducible exact LeO.none _)
   | (with_reducible refine LeO.ite ?_ ?_)
   | (with_reducible refine LeO.bind ?_ (fun _ => ?_))
   | exact ih0 _ _ _ _ _ _ _
   | exact impl_RowMany.mono _ _ _
   | exact impl_RowsOnce.mono _ _
   | exact spec_DrawRowMany.mono _ _
   | exact spec_RowMany.mono _ _ _
   | exact LeO.none _
   | refine LeO.ite ?_ ?_
   | refine LeO.bind ?_ (fun _ => ?_)
def laws_FnRowMany.T14 : Bool × List (List Nat × List Nat) := (true, [([], []), ([], []), ([], []), ([], []), ([2, 3], [2, 3]), ([1, 4], [1, 4]), ([], []), ([5, 6, 5], [5, 6]), ([], []), ([], []), ([], []), ([9, 10], [9, 10]), ([8, 11, 7], [8, 11]), ([], []), ([12, 13, 12], [12, 13]), ([7, 14], [7, 14]), ([0, 15], [0, 15]), ([16, 14], [16]), ([17], [17]), ([17], [17]), ([19, 17], [17, 19]), ([18, 20, 17], [17, 18, 20]), ([17, 21], [17, 21]), ([22, 17], [22]), ([23, 23], [23]), ([23, 24], [23, 24]), ([25, 24, 0, 1, 2, 3, 4, 5, 6, 7, 8, 9, 10, 11, 12, 13, 14, 15, 16, 17, 18, 19, 20, 21, 22, 23, 24, 25], [25])])
def laws_FnRowMany.B14 : List Nat := [0, 0, 0, 0, 12, 30, 0, 126, 0, 0, 0, 1536, 4094, 0, 16382, 32766, 65535, 131071, 262143, 262143, 786431, 2097151, 4194303, 8388607, 16777215, 33554431, 67108863]
theorem laws_FnRowMany.tab14 : rtab .any (opsOf Try.f5 14) = laws_FnRowMany.T14 := by kernel_rfl
theorem laws_FnRowMany.bits14 : waitsOk laws_FnRowMany.T14.2 laws_FnRowMany.B14 = true := by kernel_rfl
set_option maxHeartbeats 8000000 in
set_option maxRecDepth 100000 in
theorem laws_FnRowMany.calls (k : Nat) (A0 : Option Addr) (c0 : Nat) (l0 : List Int) (r : Bool) (w : World) (hr0 : Kd.C (Kd.int .u8) w A0 l0.length l0) (hc0 : l0.length ≤ c0) (h : laws_FnRowMany.f k l0 = some r) :
  Calls Try.prog 5 #[.slice A0 l0.length c0] w fun e w' => e = .returned (.bool r) ∧ Below w.heap.size w w' := by
 have HR0 := zM hr0
 have HC0 := zM hc0
 clear hr0 hc0
 have HB := zM (Below.refl w.heap.size w)
 have H : (if (l0.length : Int) > 1048576 then (some true) else ((spec_DrawRowMany.f k l0).bind fun bt471 => ((impl_RowMany.f k bt471.1 bt471.2).bind fun t477 => ((spec_RowMany.f k bt471.1 bt471.2).bind fun t478 => (if t477 = t478 then ((impl_RowsOnce.f k bt471.1).bind fun t479 => (laws_FnRowMany.l0 k bt471.1 bt471.2 t477 (wrap64 ((bt471.1.length : Int) / 2)) t479 0 0)) else (some false)))))) = some r := h
 clear h
 by_cases c2 : (l0.length : Int) > 1048576
 ·
  rw [if_pos c2] at H
  have c2b0 : decide (1048576 < (l0.length : Int)) = true := decide_eq_true c2
  have c2b1 : decide (1048576 < l0.length) = true := decide_eq_true (by omega)
  clear c2
  obtain rfl := Option.some.inj H
  go_enter Try.func5, Try.ntmps5
  go_wp2
  go_ret
  exact ⟨by first | rfl | (simp [errW_none, errW_some] <;> rfl) | (simp [*, errW_none, errW_some] <;> rfl), by repeat (first | (with_reducible first | exact HB.out | apply zU | apply zV | apply zW) | exact HB.out)⟩
 ·
  rw [if_neg c2] at H
  have c2b0 : decide (1048576 < (l0.length : Int)) = false := decide_eq_false c2
  have c2b1 : decide (1048576 < l0.length) = false := decide_eq_false (by omega)
  clear c2
  replace H := Option.bind_eq_some_iff.mp H
  obtain ⟨⟨t471, t472⟩, A30, H⟩ := H
  replace H : ((impl_RowMany.f k t471 t472).bind fun t477 => ((spec_RowMany.f k t471 t472).bind fun t478 => (if t477 = t478 then ((impl_RowsOnce.f k t471).bind fun t479 => (laws_FnRowMany.l0 k t471 t472 t477 (wrap64 ((t471.length : Int) / 2)) t479 0 0)) else (some false)))) = some r := H
  have A3 := zM A30
  clear A30
  replace H := Option.bind_eq_some_iff.mp H
  obtain ⟨t477, A40, H⟩ := H
  replace H : ((spec_RowMany.f k t471 t472).bind fun t478 => (if t477 = t478 then ((impl_RowsOnce.f k t471).bind fun t479 => (laws_FnRowMany.l0 k t471 t472 t477 (wrap64 ((t471.length : Int) / 2)) t479 0 0)) else (some false))) = some r := H
  have A4 := zM A40
  clear A40
  replace H := Option.bind_eq_some_iff.mp H
  obtain ⟨t478, A50, H⟩ := H
  replace H : (if t477 = t478 then ((impl_RowsOnce.f k t471).bind fun t479 => (laws_FnRowMany.l0 k t471 t472 t477 (wrap64 ((t471.length : Int) / 2)) t479 0 0)) else (some false)) = some r := H
  have A5 := zM A50
  clear A50
  by_cases c6 : t477 = t478
  ·
   rw [if_pos c6] at H
   have c6b0 : (t477 == t478) = true := beq_iff_eq.mpr c6
   have c6b1 : (t477 != t478) = false := bne_eq_false_iff_eq.mpr c6
   clear c6
   replace H := Option.bind_eq_some_iff.mp H
   obtain ⟨t479, A70, H⟩ := H
   replace H : (laws_FnRowMany.l0 k t471 t472 t477 (wrap64 ((t471.length : Int) / 2)) t479 0 0) = some r := H
   have A7 := zM A70
   clear A70
   have H' := zM H
   clear H
   go_enter Try.func5, Try.ntmps5
   go_wp2_with (first | ((with_reducible refine gate_callee (f := 19) rfl ?_); refine goesL_ (some 15) rfl rfl Try.func19 (by kernel_rfl) rfl #[.slice A0 l0.length c0] rfl (by (try simp only [List.map_toArray, List.map_cons, List.map_nil]); first | done | rfl | (simp only [List.length_drop, List.length_take]; rfl)) ?_; (with_reducible refine (spec_DrawRowMany.calls k _ _ l0 t471 t472 _ ?side1 ?side2 A3.out).mono ?_); (case side1 => repeat (first | exact HR0.out | (with_reducible refine zQ ?_ _) | (with_reducible refine zO ?_ _) | (with_reducible refine zP ?_))); (case side2 => exact HC0.out); rintro e w8 ⟨v473, v475, rfl, ho0, ho1, hb⟩; refine ⟨_, rfl, ?_⟩; have n0_ := zM (Kd.N_lower (Kd.N_mono (ok' := fun k_ => some k_ ≠ (v475 : Value).ownBlock) (Kd.S_N (Kd.S_bound ho0)) (fun k_ hk_ => hk_.1)) (zI (by repeat (first | (with_reducible first | exact HB.out | apply zU | apply zV | apply zW) | exact HB.out)))); have n1_ := zM (Kd.R_lower ho1 (zI (by repeat (first | (with_reducible first | exact HB.out | apply zU | apply zV | apply zW) | exact HB.out)))); have n2_ := zM (zG (by repeat (first | (with_reducible first | exact HB.out | apply zU | apply zV | apply zW) | exact HB.out)) hb); clear HB; have HO474 := n0_; have HO476 := n1_; have HB := n2_; clear n0_ n1_ n2_; (try clear hb); (try clear hb2); (try clear hk); (try clear hi); (try clear ho0); (try clear ho1); obtain ⟨Ao9, co9, eo9⟩ := Kd.N_slice HO474.out; subst eo9; obtain ⟨Ao10, co10, eo10⟩ := Kd.R_slice HO476.out; subst eo10) | ((with_reducible refine gate_callee (f := 20) rfl ?_); refine goesL_ (some 20) rfl rfl Try.func20 (by kernel_rfl) rfl #[.slice Ao9 t471.length co9, .slice Ao10 t472.length co10] rfl (by (try simp only [List.map_toArray, List.map_cons, List.map_nil]); first | done | rfl | (simp only [List.length_drop, List.length_take]; rfl)) ?_; (with_reducible refine (impl_RowMany.calls k _ _ t471 _ _ t472 t477 _ ?side1 ?side2 ?side3 ?side4 A4.out).mono ?_); (case side1 => repeat (first | exact (Kd.N_reads' HO474.out).2.2 | (with_reducible refine zQ ?_ _) | (with_reducible refine zO ?_ _) | (with_reducible refine zP ?_))); (case side2 => exact (Kd.N_reads' HO474.out).2.1); (case side3 => repeat (first | exact (Kd.R_reads' HO476.out).2.2 | (with_reducible refine zQ ?_ _) | (with_reducible refine zO ?_ _) | (with_reducible refine zP ?_))); (case side4 => exact (Kd.R_reads' HO476.out).2.1); rintro e w' ⟨rfl, ⟨nd, rfl⟩⟩; refine ⟨_, rfl, ?_⟩) | ((with_reducible refine gate_callee (f := 21) rfl ?_); refine goesL_ (some 24) rfl rfl Try.func21 (by kernel_rfl) rfl #[.slice Ao9 t471.length co9, .slice Ao10 t472.length co10] rfl (by (try simp only [List.map_toArray, List.map_cons, List.map_nil]); first | done | rfl | (simp only [List.length_drop, List.length_take]; rfl)) ?_; (with_reducible refine (spec_RowMany.calls k _ _ t471 _ _ t472 t478 _ ?side1 ?side2 ?side3 ?side4 A5.out).mono ?_); (case side1 => repeat (first | exact (Kd.N_reads' HO474.out).2.2 | (with_reducible refine zQ ?_ _) | (with_reducible refine zO ?_ _) | (with_reducible refine zP ?_))); (case side2 => exact (Kd.N_reads' HO474.out).2.1); (case side3 => repeat (first | exact (Kd.R_reads' HO476.out).2.2 | (with_reducible refine zQ ?_ _) | (with_reducible refine zO ?_ _) | (with_reducible refine zP ?_))); (case side4 => exact (Kd.R_reads' HO476.out).2.1); rintro e w' ⟨rfl, ⟨nd, rfl⟩⟩; refine ⟨_, rfl, ?_⟩) | ((with_reducible refine gate_callee (f := 22) rfl ?_); refine goesL_ (some 30) rfl rfl Try.func22 (by kernel_rfl) rfl #[.slice Ao9 t471.length co9] rfl (by (try simp only [List.map_toArray, List.map_cons, List.map_nil]); first | done | rfl | (simp only [List.length_drop, List.length_take]; rfl)) ?_; (with_reducible refine (impl_RowsOnce.calls k (fun k_ => some k_ ≠ (.slice Ao10 t472.length co10 : Value).ownBlock) _ _ t471 t479 _ ?side1 A7.out).mono ?_); (case side1 => exact Kd.N_V (HO474.out)); rintro e w11 ⟨v480, rfl, ho0, hb⟩; refine ⟨_, rfl, ?_⟩; have n0_ := zM (Kd.N_elder' (by (with_reducible repeat (first | apply Kd.N_alloc | apply Kd.N_drewN | apply Kd.N_drew)); exact HO474.out) (Kd.N_base ho0) hb); have n1_ := zM (Kd.R_below (by (with_reducible repeat (first | apply zR | apply zS | apply zT)); exact HO476.out) hb); have n2_ := zM (Kd.N_lower (Kd.N_mono (ok' := fun k_ => some k_ ≠ (.slice Ao10 t472.length co10 : Value).ownBlock) ho0 (fun k_ hk_ => Or.elim hk_ (fun hs_ => hs_) (fun hn_ => (Kd.fresh' (Kd.R_lt (by (with_reducible repeat (first | apply zR | apply zS | apply zT)); exact HO476.out)) k_ hn_)))) (zI (by repeat (first | (with_reducible first | exact HB.out | apply zU | apply zV | apply zW) | exact HB.out)))); have n3_ := zM (zG (by repeat (first | (with_reducible first | exact HB.out | apply zU | apply zV | apply zW) | exact HB.out)) hb); clear HO474; clear HO476; clear HB; have HO474 := n0_; have HO476 := n1_; have HO481 := n2_; have HB := n3_; clear n0_ n1_ n2_ n3_; (try clear hb); (try clear hb2); (try clear hk); (try clear hi); (try clear ho0)))
   go_loopg [8, 9] k (fun kq v8 v9 w' => ∃ (x8_1 : Int) (x9_1 : Int), v8 = .int .i64 x8_1 ∧ v9 = .int .i64 x9_1 ∧ Aside0 (laws_FnRowMany.l0 kq t471 t472 t477 (wrap64 ((t471.length : Int) / 2)) t479 x8_1 x9_1 = some r) ∧ Aside0 (kq ≤ k) ∧ Aside0 (Kd.N (Kd.slice 83 k83) 39 w' w.heap.size (fun k_ => some k_ ≠ ((.slice Ao10 t472.length co10) : Value).ownBlock ∧ some k_ ≠ (v480 : Value).ownBlock) (.slice Ao9 t471.length co9) t471) ∧ Aside0 (Kd.R k83 83 w' w.heap.size (fun _ => True) (.slice Ao10 t472.length co10) t472) ∧ Aside0 (Kd.N (Kd.slice 83 k83) 39 w' w.heap.size (fun k_ => some k_ ≠ ((.slice Ao10 t472.length co10) : Value).ownBlock) v480 t479) ∧ Aside0 (Below w.heap.size w w'))
   case atStart => exact ⟨(0), (0), (by first | rfl | (simp; done) | (simp [*]; done)), (by first | rfl | (simp; done) | (simp [*]; done)), H', ⟨Nat.le_refl _⟩, ⟨by (with_reducible repeat (first | apply Kd.N_alloc | apply Kd.N_drewN | apply Kd.N_drew)); exact HO474.out⟩, ⟨by (with_reducible repeat (first | apply zR | apply zS | apply zT)); exact HO476.out⟩, ⟨by (with_reducible repeat (first | apply Kd.N_alloc | apply Kd.N_drewN | apply Kd.N_drew)); exact HO481.out⟩, ⟨by repeat (first | (with_reducible first | exact HB.out | apply zU | apply zV | apply zW) | exact HB.out)⟩⟩
   case round =>
    clear H'
    try clear c1
    try clear c2
    try clear c2b0
    try clear c2b1
    try clear p2
    try clear c5
    try clear c6
    try clear c6b0
    try clear c6b1
    try clear p6
    obtain ⟨x8_1, x9_1, rfl, rfl, HA, HK1, HO_3, HO_4, HO_7, HB⟩ := hrel
    cases gk with
    | zero => exact absurd HA.out (by simp [laws_FnRowMany.l0])
    | succ k1 =>
     have H := HA.out
     clear HA
     simp only [laws_FnRowMany.l0] at H
     by_cases c12 : x9_1 < (t479.length : Int)
     ·
      rw [if_pos c12] at H
      have c12b0 : decide (x9_1 < (t479.length : Int)) = true := decide_eq_true c12
      clear c12
      by_cases c13 : 0 ≤ x9_1
      ·
       rw [if_pos c13] at H
       have c13b0 : decide (0 ≤ x9_1) = true := decide_eq_true c13
       clear c13
       replace H := Option.bind_eq_some_iff.mp H
       obtain ⟨t483, A140, H⟩ := H
       replace H : (laws_FnRowMany.l0 k1 t471 t472 t477 (wrap64 ((t471.length : Int) / 2)) t479 (wrap64 (x8_1 + t483)) (wrap64 (x9_1 + 1))) = some r := H
       have A14 := zM A140
       clear A140
       have H' := zM H
       clear H
       obtain ⟨Ao15, co15, eo15⟩ := Kd.N_slice HO_7.out
       subst eo15
       have p482 : 0 ≤ (x9_1 : Int) := zL (by assumption)
       have q482 : x9_1 < (t479.length : Int) := zL (by assumption)
       obtain ⟨ad482, A482_0, c482_0, e482, hx482_0, hl482_0, hi482_0⟩ := at_L4 (Kd.N_reads' HO_7.out).2.2 x9_1 p482 q482
       cases e482
       obtain ⟨ce482, hce482, hMe482, hcc482⟩ := Kd.N_get HO_7.out [] x9_1 p482 (by first | exact q482 | exact zL (by assumption) | (have e_ := (Kd.N_reads' HO_7.out).1; omega))
       obtain ⟨ua482_0, uc482_0, rfl, ul482_0, ge482_0⟩ := Kd.FK_slice_open hMe482
       have hv482_0 := hcc482 0 _ rfl
       rw [Nat.add_zero, show ((Kd.slice 83 k83)).sz = 1 from rfl, Nat.mul_one] at hv482_0
       replace hv482_0 := Option.some.inj (hv482_0.symm.trans hx482_0)
       injection hv482_0 with hva_ hvn_ hvc_
       rw [hva_] at ge482_0
       rw [hvc_] at ul482_0
       have HL482_0 := zM (show Kd.V k83 83 _ w.heap.size _ _ (rd_L4 t479 x9_1) from Kd.V_mk ul482_0 ge482_0)
       clear hva_ hvn_ hvc_ ge482_0 ul482_0
       clear hcc482 hce482
       have HR482_0 := zM hi482_0
       have HC482_0 := zM hl482_0
       clear hi482_0 hl482_0
       replace p482 := eq_true p482
       replace q482 := eq_true q482
       go_wp2_with (first | ((with_reducible refine gate_callee (f := 20) rfl ?_); refine goesL_ (some 43) rfl rfl Try.func20 (by kernel_rfl) rfl #[.slice Ao9 t471.length co9, .slice A482_0 (rd_L4 t479 x9_1).length c482_0] rfl (by (try simp only [List.map_toArray, List.map_cons, List.map_nil]); first | done | rfl | (simp only [List.length_drop, List.length_take]; rfl)) ?_; (with_reducible refine (impl_RowMany.calls k1 _ _ t471 _ _ (rd_L4 t479 x9_1) t483 _ ?side1 ?side2 ?side3 ?side4 A14.out).mono ?_); (case side1 => repeat (first | exact (Kd.N_reads' HO_3.out).2.2 | (with_reducible refine zQ ?_ _) | (with_reducible refine zO ?_ _) | (with_reducible refine zP ?_))); (case side2 => exact (Kd.N_reads' HO_3.out).2.1); (case side3 => repeat (first | exact (by repeat (first | (with_reducible exact HR482_0.out) | (with_reducible refine zQ ?_ _) | (with_reducible refine zO ?_ _) | (with_reducible refine zP ?_) | exact HR482_0.out)) | (with_reducible refine zQ ?_ _) | (with_reducible refine zO ?_ _) | (with_reducible refine zP ?_))); (case side4 => exact HC482_0.out); rintro e w' ⟨rfl, ⟨nd, rfl⟩⟩; refine ⟨_, rfl, ?_⟩))
       go_roundg k1
       case measure => have := HK1.out; omega
       case rel => exact ⟨(wrap64 (x8_1 + t483)), (wrap64 (x9_1 + 1)), (by first | rfl | (simp; done) | (simp [*]; done)), (by first | rfl | (simp; done) | (simp [*]; done)), H', ⟨by have := HK1.out; omega⟩, ⟨by (with_reducible repeat (first | apply Kd.N_alloc | apply Kd.N_drewN | apply Kd.N_drew)); exact HO_3.out⟩, ⟨by (with_reducible repeat (first | apply zR | apply zS | apply zT)); exact HO_4.out⟩, ⟨by (with_reducible repeat (first | apply Kd.N_alloc | apply Kd.N_drewN | apply Kd.N_drew)); exact HO_7.out⟩, ⟨by repeat (first | (with_reducible first | exact HB.out | apply zU | apply zV | apply zW) | exact HB.out)⟩⟩
      ·
       rw [if_neg c13] at H
       exact absurd H (by simp)
     ·
      rw [if_neg c12] at H
      have c12b0 : decide (x9_1 < (t479.length : Int)) = false := decide_eq_false c12
      clear c12
      obtain ⟨y484, hy484⟩ : ∃ y_ : List (List (S83)), y_ = (([] : List (List (S83)))) := ⟨_, rfl⟩
      replace H : (if 0 ≤ (wrap64 ((t471.length : Int) / 2)) then (if (wrap64 ((t471.length : Int) / 2)) ≤ (t471.length : Int) then ((some (t471.take ((wrap64 ((t471.length : Int) / 2)) : Int).toNat : List (List (S83)))).bind fun y487 => (if y484.length + y487.length < 5864062014805 then ((impl_RowMany.f k1 (y484 ++ y487) t472).bind fun t495 => ((some (([] : List (List (S83))) : List (List (S83)))).bind fun y496 => ((some (t471.drop ((wrap64 ((t471.length : Int) / 2)) : Int).toNat : List (List (S83)))).bind fun y499 => (if y496.length + y499.length < 5864062014805 then ((impl_RowMany.f k1 (y496 ++ y499) t472).bind fun t507 => (if t477 = (wrap64 (t495 + t507)) then (if x8_1 = (t471.length : Int) then ((laws_alive.f).bind fun t508 => (some t508)) else (some false)) else (some false))) else (none))))) else (none))) else (none)) else (none)) = some r := by first | (rw [hy484]; with_reducible exact H) | (have H2_ := (Option.bind_some _ _).symm.trans H; rw [hy484]; with_reducible exact H2_) | (have H2_ := (Option.bind_some _ _).symm.trans H; with_reducible exact H2_) | with_reducible exact H | (rw [hy484]; exact H) | exact H
      have Ny484 := zM hy484
      clear hy484
      obtain ⟨ji16, hji16⟩ : ∃ j_ : Int, (wrap64 ((t471.length : Int) / 2)) = j_ := ⟨_, rfl⟩
      replace H : (if 0 ≤ (ji16) then (if (ji16) ≤ (t471.length : Int) then ((some (t471.take ((ji16) : Int).toNat : List (List (S83)))).bind fun y487 => (if y484.length + y487.length < 5864062014805 then ((impl_RowMany.f k1 (y484 ++ y487) t472).bind fun t495 => ((some (([] : List (List (S83))) : List (List (S83)))).bind fun y496 => ((some (t471.drop ((ji16) : Int).toNat : List (List (S83)))).bind fun y499 => (if y496.length + y499.length < 5864062014805 then ((impl_RowMany.f k1 (y496 ++ y499) t472).bind fun t507 => (if t477 = (wrap64 (t495 + t507)) then (if x8_1 = (t471.length : Int) then ((laws_alive.f).bind fun t508 => (some t508)) else (some false)) else (some false))) else (none))))) else (none))) else (none)) else (none)) = some r := by first | (rw [hji16] at H; exact H) | (simp only [hji16] at H ⊢; exact H)
      have hji16w : (IntKind.i64.wrap ((t471.length : Int) / 2)) = ji16 := (i64_w _).trans hji16
      by_cases c17 : 0 ≤ (ji16)
      ·
       rw [if_pos c17] at H
       have c17b0 := eq_true c17
       have c17b1 : decide (0 ≤ (ji16)) = true := decide_eq_true c17
       clear c17
       by_cases c18 : (ji16) ≤ (t471.length : Int)
       ·
        rw [if_pos c18] at H
        have c18b0 := eq_true c18
        have c18b1 : decide ((ji16) ≤ (t471.length : Int)) = true := decide_eq_true c18
        clear c18
        obtain ⟨y487, hy487⟩ : ∃ y_ : List (List (S83)), y_ = (t471.take ((ji16) : Int).toNat) := ⟨_, rfl⟩
        replace H : (if y484.length + y487.length < 5864062014805 then ((impl_RowMany.f k1 (y484 ++ y487) t472).bind fun t495 => ((some (([] : List (List (S83))) : List (List (S83)))).bind fun y496 => ((some (t471.drop ((ji16) : Int).toNat : List (List (S83)))).bind fun y499 => (if y496.length + y499.length < 5864062014805 then ((impl_RowMany.f k1 (y496 ++ y499) t472).bind fun t507 => (if t477 = (wrap64 (t495 + t507)) then (if x8_1 = (t471.length : Int) then ((laws_alive.f).bind fun t508 => (some t508)) else (some false)) else (some false))) else (none))))) else (none)) = some r := by first | (rw [hy487]; with_reducible exact H) | (have H2_ := (Option.bind_some _ _).symm.trans H; rw [hy487]; with_reducible exact H2_) | (have H2_ := (Option.bind_some _ _).symm.trans H; with_reducible exact H2_) | with_reducible exact H | (rw [hy487]; exact H) | exact H
        have Ny487 := zM hy487
        clear hy487
        by_cases c19 : y484.length + y487.length < 5864062014805
        ·
         rw [if_pos c19] at H
         have LMc19 := zM c19
         clear c19
         obtain ⟨y492, hy492⟩ : ∃ y_ : List (List (S83)), y_ = (y484 ++ y487) := ⟨_, rfl⟩
         replace H : ((impl_RowMany.f k1 y492 t472).bind fun t495 => ((some (([] : List (List (S83))) : List (List (S83)))).bind fun y496 => ((some (t471.drop ((ji16) : Int).toNat : List (List (S83)))).bind fun y499 => (if y496.length + y499.length < 5864062014805 then ((impl_RowMany.f k1 (y496 ++ y499) t472).bind fun t507 => (if t477 = (wrap64 (t495 + t507)) then (if x8_1 = (t471.length : Int) then ((laws_alive.f).bind fun t508 => (some t508)) else (some false)) else (some false))) else (none))))) = some r := by first | (rw [hy492]; with_reducible exact H) | (have H2_ := (Option.bind_some _ _).symm.trans H; rw [hy492]; with_reducible exact H2_) | (have H2_ := (Option.bind_some _ _).symm.trans H; with_reducible exact H2_) | with_reducible exact H | (rw [hy492]; exact H) | exact H
         have Ny492 := zM hy492
         clear hy492
         replace H := Option.bind_eq_some_iff.mp H
         obtain ⟨t495, A200, H⟩ := H
         replace H : ((some (([] : List (List (S83))) : List (List (S83)))).bind fun y496 => ((some (t471.drop ((ji16) : Int).toNat : List (List (S83)))).bind fun y499 => (if y496.length + y499.length < 5864062014805 then ((impl_RowMany.f k1 (y496 ++ y499) t472).bind fun t507 => (if t477 = (wrap64 (t495 + t507)) then (if x8_1 = (t471.length : Int) then ((laws_alive.f).bind fun t508 => (some t508)) else (some false)) else (some false))) else (none)))) = some r := H
         have A20 := zM A200
         clear A200
         obtain ⟨y496, hy496⟩ : ∃ y_ : List (List (S83)), y_ = (([] : List (List (S83)))) := ⟨_, rfl⟩
         replace H : ((some (t471.drop ((ji16) : Int).toNat : List (List (S83)))).bind fun y499 => (if y496.length + y499.length < 5864062014805 then ((impl_RowMany.f k1 (y496 ++ y499) t472).bind fun t507 => (if t477 = (wrap64 (t495 + t507)) then (if x8_1 = (t471.length : Int) then ((laws_alive.f).bind fun t508 => (some t508)) else (some false)) else (some false))) else (none))) = some r := by first | (rw [hy496]; with_reducible exact H) | (have H2_ := (Option.bind_some _ _).symm.trans H; rw [hy496]; with_reducible exact H2_) | (have H2_ := (Option.bind_some _ _).symm.trans H; with_reducible exact H2_) | with_reducible exact H | (rw [hy496]; exact H) | exact H
         have Ny496 := zM hy496
         clear hy496
         have c21b0 := eq_true (zL (by assumption) : 0 ≤ (ji16))
         have c22b0 := eq_true (zL (by assumption) : (ji16) ≤ (t471.length : Int))
         obtain ⟨y499, hy499⟩ : ∃ y_ : List (List (S83)), y_ = (t471.drop ((ji16) : Int).toNat) := ⟨_, rfl⟩
         replace H : (if y496.length + y499.length < 5864062014805 then ((impl_RowMany.f k1 (y496 ++ y499) t472).bind fun t507 => (if t477 = (wrap64 (t495 + t507)) then (if x8_1 = (t471.length : Int) then ((laws_alive.f).bind fun t508 => (some t508)) else (some false)) else (some false))) else (none)) = some r := by first | (rw [hy499]; with_reducible exact H) | (have H2_ := (Option.bind_some _ _).symm.trans H; rw [hy499]; with_reducible exact H2_) | (have H2_ := (Option.bind_some _ _).symm.trans H; with_reducible exact H2_) | with_reducible exact H | (rw [hy499]; exact H) | exact H
         have Ny499 := zM hy499
         clear hy499
         by_cases c23 : y496.length + y499.length < 5864062014805
         ·
          rw [if_pos c23] at H
          have LMc23 := zM c23
          clear c23
          obtain ⟨y504, hy504⟩ : ∃ y_ : List (List (S83)), y_ = (y496 ++ y499) := ⟨_, rfl⟩
          replace H : ((impl_RowMany.f k1 y504 t472).bind fun t507 => (if t477 = (wrap64 (t495 + t507)) then (if x8_1 = (t471.length : Int) then ((laws_alive.f).bind fun t508 => (some t508)) else (some false)) else (some false))) = some r := by first | (rw [hy504]; with_reducible exact H) | (have H2_ := (Option.bind_some _ _).symm.trans H; rw [hy504]; with_reducible exact H2_) | (have H2_ := (Option.bind_some _ _).symm.trans H; with_reducible exact H2_) | with_reducible exact H | (rw [hy504]; exact H) | exact H
          have Ny504 := zM hy504
          clear hy504
          replace H := Option.bind_eq_some_iff.mp H
          obtain ⟨t507, A240, H⟩ := H
          replace H : (if t477 = (wrap64 (t495 + t507)) then (if x8_1 = (t471.length : Int) then ((laws_alive.f).bind fun t508 => (some t508)) else (some false)) else (some false)) = some r := H
          have A24 := zM A240
          clear A240
          by_cases c25 : t477 = (wrap64 (t495 + t507))
          ·
           rw [if_pos c25] at H
           have c25b0 : (t477 == (wrap64 (t495 + t507))) = true := beq_iff_eq.mpr c25
           have c25b1 : (t477 != (wrap64 (t495 + t507))) = false := bne_eq_false_iff_eq.mpr c25
           clear c25
           by_cases c26 : x8_1 = (t471.length : Int)
           ·
            rw [if_pos c26] at H
            have c26b0 : (x8_1 == (t471.length : Int)) = true := beq_iff_eq.mpr c26
            have c26b1 : (x8_1 != (t471.length : Int)) = false := bne_eq_false_iff_eq.mpr c26
            clear c26
            replace H := Option.bind_eq_some_iff.mp H
            obtain ⟨t508, A270, H⟩ := H
            replace H : (some t508) = some r := H
            have A27 := zM A270
            clear A270
            obtain rfl := Option.some.inj H
            obtain ⟨Ao28, co28, eo28⟩ := Kd.N_slice HO_7.out
            subst eo28
            try go_wp2
            have n0_ := zM (Kd.N_drew HO_3.out)
            have n1_ := zM (zT HO_4.out)
            have n2_ := zM (Kd.N_drew HO_7.out)
            have n3_ := zM (zW HB.out)
            clear HO_3
            clear HO_4
            clear HO_7
            clear HB
            have HO_3 := n0_
            have HO_4 := n1_
            have HO_7 := n2_
            have HB := n3_
            clear n0_ n1_ n2_ n3_
            have q30 : ((ji16) : Int) ≤ ((t471.length : Int) : Int) := zL (by assumption)
            obtain ⟨i030, hi030, _, hsz30, _⟩ := info_parts info39
            have hroom30 : t471.length ≤ co9 := (Kd.N_reads' HO_3.out).2.1
            have hC30 : Kd.F (Kd.slice 83 k83) _ _ Ao9 t471.length t471 := (Kd.V_at (base := w.heap.size) (Kd.N_V HO_3.out)).2.2
            have hcut30 := cut_to (P := Try.prog) 38 39 .i64 Try.underlying38 hi030 Ao9 t471.length co9 (ji16) (zL (by assumption)) q30 hroom30
            have hr30 := Kd.F_take (m := ((ji16) : Int).toNat) hC30 (by omega)
            have hy30 : y487.length = ((ji16) : Int).toNat := (by rw [Ny487.out, List.length_take]; omega)
            rw [← Ny487.out] at hr30
            rw [← hy30] at hcut30
            have HO491 := zM (show Kd.V (Kd.slice 83 k83) 39 _ w.heap.size _ (.slice Ao9 y487.length co9) y487 from Kd.V_mk (by omega) hr30)
            have HC491 := zM (show y487.length ≤ co9 from by omega)
            clear hr30 hC30 hroom30 hi030 hsz30
            have KY30 := zM hy30
            clear hy30
            replace q30 := eq_true q30
            have q31 : ((ji16) : Int) ≤ ((t471.length : Int) : Int) := zL (by assumption)
            obtain ⟨i031, hi031, _, hsz31, _⟩ := info_parts info39
            have hroom31 : t471.length ≤ co9 := (Kd.N_reads' HO_3.out).2.1
            have hC31 : Kd.F (Kd.slice 83 k83) _ _ Ao9 t471.length t471 := (Kd.V_at (base := w.heap.size) (Kd.N_V HO_3.out)).2.2
            have q031 : (0 : Int) ≤ ((ji16) : Int) := zL (by assumption)
            have hcut31 := cut_from (P := Try.prog) 38 39 .i64 Try.underlying38 hi031 1 hsz31 Ao9 t471.length co9 (ji16) q031 q31
            have hr31 := Kd.F_cut (m := ((ji16) : Int).toNat) (c := co9) hC31 (by omega) hroom31
            obtain ⟨A31, hA31⟩ : ∃ A1, A1 = (if co9 = ((ji16) : Int).toNat then Ao9 else (Ao9 : Option Addr).map (·.add (((ji16) : Int).toNat * 1))) := ⟨_, rfl⟩
            obtain ⟨c31, hc31⟩ : ∃ c1, c1 = co9 - ((ji16) : Int).toNat := ⟨_, rfl⟩
            have hy31 : y499.length = t471.length - ((ji16) : Int).toNat := (by rw [Ny499.out, List.length_drop] <;> omega)
            rw [show (t471).drop ((ji16) : Int).toNat = y499 from Ny499.out.symm] at hr31
            replace hr31 : Kd.F (Kd.slice 83 k83) _ _ A31 y499.length y499 := (by rw [hA31]; exact hr31)
            rw [← hy31, ← hA31, ← hc31] at hcut31
            have HO503 := zM (show Kd.V (Kd.slice 83 k83) 39 _ w.heap.size _ (.slice A31 y499.length c31) y499 from Kd.V_mk (by rw [hy31, hc31]; exact Nat.sub_le_sub_right hroom31 _) hr31)
            have HC503 := zM (show y499.length ≤ c31 from by rw [hy31, hc31]; exact Nat.sub_le_sub_right hroom31 _)
            clear hr31 hC31 hroom31 hi031 hsz31 hc31
            have KY31 := zM hy31
            have KA31 := zM hA31
            clear hy31 hA31
            replace q31 := eq_true q31
            refine start_ (n := 27) (S := fun w' => True) (ds := []) #[ff, ff, ff, ff, ff, ff, ff, ff, ff, ff, ff, ff, ff, ff, ff, ff, ff, ff, ff, ff, ff, ff, ff, ff, ff, ff, ff] (by kernel_rfl) rfl rfl trivial (fun hHeld => ?_); refine with_tabW laws_FnRowMany.tab14 laws_FnRowMany.bits14 (fun HT_ HW_ => ?_)
            generalize wr.drew = w29 at HO_3 HO_4 HO_7 HB HO491 HO503 hHeld ⊢
            refine pure_ (i := 0) (N := some 45) (v := ?_) (a' := ?_) #[tt, ff, ff, ff, ff, ff, ff, ff, ff, ff, ff, ff, ff, ff, ff, ff, ff, ff, ff, ff, ff, ff, ff, ff, ff, ff, ff] rfl rfl (any_of HT_.out (by kernel_rfl)) (fun _ _ _ h => h) (Or.inl ⟨by rfl, ?_⟩) ?_ ?_
            rotate_left
            ·
             intro w'
             go_simp
             with_reducible rfl
            rotate_left
            ·
             simp only [Act.put, zA, zB, zC, i64_w, i32_w]
             rfl
            refine pure_ (i := 2) (N := some 47) (v := ?_) (a' := ?_) #[tt, ff, tt, ff, ff, ff, ff, ff, ff, ff, ff, ff, ff, ff, ff, ff, ff, ff, ff, ff, ff, ff, ff, ff, ff, ff, ff] rfl rfl (any_of HT_.out (by kernel_rfl)) (fun _ _ _ h => h) (Or.inl ⟨by rfl, ?_⟩) ?_ ?_
            rotate_left
            ·
             intro w'
             go_simp
             with_reducible rfl
            rotate_left
            ·
             simp only [Act.put, zA, zB, zC, i64_w, i32_w]
             rfl
            refine pure_ (i := 3) (N := some 48) (v := ?_) (a' := ?_) #[tt, ff, tt, tt, ff, ff, ff, ff, ff, ff, ff, ff, ff, ff, ff, ff, ff, ff, ff, ff, ff, ff, ff, ff, ff, ff, ff] rfl rfl (any_of HT_.out (by kernel_rfl)) (fun _ _ _ h => h) (Or.inl ⟨by rfl, ?_⟩) ?_ ?_
            rotate_left
            ·
             intro w'
             go_simp
             with_reducible rfl
            rotate_left
            ·
             simp only [Act.put, zA, zB, zC, i64_w, i32_w]
             rfl
            refine pure_ (i := 4) (N := some 49) (v := ?_) (a' := ?_) #[tt, ff, tt, tt, tt, ff, ff, ff, ff, ff, ff, ff, ff, ff, ff, ff, ff, ff, ff, ff, ff, ff, ff, ff, ff, ff, ff] rfl rfl (any_of HT_.out (by kernel_rfl)) (fun _ _ _ h => h) (Or.inl ⟨by rfl, ?_⟩) ?_ ?_
            rotate_left
            ·
             intro w'
             go_simp
             with_reducible rfl
            rotate_left
            ·
             simp only [Act.put, zA, zB, zC, i64_w, i32_w]
             rfl
            refine pure_ (i := 6) (N := some 51) (v := ?_) (a' := ?_) #[tt, ff, tt, tt, tt, ff, tt, ff, ff, ff, ff, ff, ff, ff, ff, ff, ff, ff, ff, ff, ff, ff, ff, ff, ff, ff, ff] rfl rfl (any_of HT_.out (by kernel_rfl)) (fun _ _ _ h => h) (Or.inl ⟨by rfl, ?_⟩) ?_ ?_
            rotate_left
            ·
             intro w'
             go_simp
             with_reducible rfl
            rotate_left
            ·
             simp only [Act.put, zA, zB, zC, i64_w, i32_w]
             rfl
            refine pure_ (i := 9) (N := some 54) (v := ?_) (a' := ?_) #[tt, ff, tt, tt, tt, ff, tt, ff, ff, tt, ff, ff, ff, ff, ff, ff, ff, ff, ff, ff, ff, ff, ff, ff, ff, ff, ff] rfl rfl (any_of HT_.out (by kernel_rfl)) (fun _ _ _ h => h) (Or.inl ⟨by rfl, ?_⟩) ?_ ?_
            rotate_left
            ·
             intro w'
             go_simp
             with_reducible rfl
            rotate_left
            ·
             simp only [Act.put, zA, zB, zC, i64_w, i32_w]
             rfl
            refine pure_ (i := 10) (N := some 55) (v := ?_) (a' := ?_) #[tt, ff, tt, tt, tt, ff, tt, ff, ff, tt, tt, ff, ff, ff, ff, ff, ff, ff, ff, ff, ff, ff, ff, ff, ff, ff, ff] rfl rfl (any_of HT_.out (by kernel_rfl)) (fun _ _ _ h => h) (Or.inl ⟨by rfl, ?_⟩) ?_ ?_
            rotate_left
            ·
             intro w'
             go_simp
             with_reducible rfl
            rotate_left
            ·
             simp only [Act.put, zA, zB, zC, i64_w, i32_w]
             rfl
            refine pure_ (i := 11) (N := some 56) (v := ?_) (a' := ?_) #[tt, ff, tt, tt, tt, ff, tt, ff, ff, tt, tt, tt, ff, ff, ff, ff, ff, ff, ff, ff, ff, ff, ff, ff, ff, ff, ff] rfl rfl (any_of HT_.out (by kernel_rfl)) (fun _ _ _ h => h) (Or.inl ⟨by rfl, ?_⟩) ?_ ?_
            rotate_left
            ·
             intro w'
             go_simp
             with_reducible rfl
            rotate_left
            ·
             simp only [Act.put, zA, zB, zC, i64_w, i32_w]
             rfl
            refine pure_ (i := 13) (N := some 58) (v := ?_) (a' := ?_) #[tt, ff, tt, tt, tt, ff, tt, ff, ff, tt, tt, tt, ff, tt, ff, ff, ff, ff, ff, ff, ff, ff, ff, ff, ff, ff, ff] rfl rfl (any_of HT_.out (by kernel_rfl)) (fun _ _ _ h => h) (Or.inl ⟨by rfl, ?_⟩) ?_ ?_
            rotate_left
            ·
             intro w'
             go_simp
             with_reducible rfl
            rotate_left
            ·
             simp only [Act.put, zA, zB, zC, i64_w, i32_w]
             rfl
            refine join_ (σ := Value × Value × Value) 14 #[tt, tt, tt, tt, tt, tt, tt, tt, tt, tt, tt, tt, ff, tt, ff, ff, ff, ff, ff, ff, ff, ff, ff, ff, ff, ff, ff] (fun s_ => [(46, s_.1), (50, s_.2.1), (52, .int .i64 t495), (53, s_.2.2)]) (fun s_ w' => (Kd.V (Kd.slice 83 k83) 39 w' w.heap.size (fun k_ => some k_ ≠ (s_.2.1 : Value).ownBlock ∧ some k_ ≠ (s_.2.2 : Value).ownBlock ∧ some k_ ≠ (.slice Ao10 t472.length co10 : Value).ownBlock ∧ some k_ ≠ (.slice Ao28 t479.length co28 : Value).ownBlock) (.slice Ao9 y487.length co9) y487) ∧ (Kd.N (Kd.slice 83 k83) 39 w' w.heap.size (fun k_ => some k_ ≠ (s_.2.2 : Value).ownBlock ∧ some k_ ≠ (.slice Ao10 t472.length co10 : Value).ownBlock ∧ some k_ ≠ (.slice Ao28 t479.length co28 : Value).ownBlock) s_.2.1 y492) ∧ (Kd.N (Kd.slice 83 k83) 39 w' w.heap.size (fun k_ => some k_ ≠ (s_.2.1 : Value).ownBlock ∧ some k_ ≠ (.slice Ao9 t471.length co9 : Value).ownBlock ∧ some k_ ≠ (.slice Ao10 t472.length co10 : Value).ownBlock ∧ some k_ ≠ (.slice Ao28 t479.length co28 : Value).ownBlock) s_.2.2 y496) ∧ (Kd.V (Kd.slice 83 k83) 39 w' w.heap.size (fun k_ => some k_ ≠ (s_.2.1 : Value).ownBlock ∧ some k_ ≠ (s_.2.2 : Value).ownBlock ∧ some k_ ≠ (.slice Ao10 t472.length co10 : Value).ownBlock ∧ some k_ ≠ (.slice Ao28 t479.length co28 : Value).ownBlock) (.slice A31 y499.length c31) y499) ∧ (Kd.N (Kd.slice 83 k83) 39 w' w.heap.size (fun k_ => some k_ ≠ (s_.2.1 : Value).ownBlock ∧ some k_ ≠ (s_.2.2 : Value).ownBlock ∧ some k_ ≠ (.slice Ao10 t472.length co10 : Value).ownBlock ∧ some k_ ≠ (.slice Ao28 t479.length co28 : Value).ownBlock) (.slice Ao9 t471.length co9) t471) ∧ (Kd.R k83 83 w' w.heap.size (fun _ => True) (.slice Ao10 t472.length co10) t472) ∧ (Kd.N (Kd.slice 83 k83) 39 w' w.heap.size (fun k_ => some k_ ≠ (s_.2.1 : Value).ownBlock ∧ some k_ ≠ (s_.2.2 : Value).ownBlock ∧ some k_ ≠ (.slice Ao10 t472.length co10 : Value).ownBlock) (.slice Ao28 t479.length co28) t479) ∧ (Below w.heap.size w w')) ?_ ?_
            rotate_left
            ·
             intro hCont
             refine two_ (i := 1) (j := 8) (Ni := some 46) (Nj := some 53) #[tt, tt, tt, tt, tt, ff, tt, ff, ff, tt, tt, tt, ff, tt, ff, ff, ff, ff, ff, ff, ff, ff, ff, ff, ff, ff, ff] #[tt, ff, tt, tt, tt, ff, tt, ff, tt, tt, tt, tt, ff, tt, ff, ff, ff, ff, ff, ff, ff, ff, ff, ff, ff, ff, ff] rfl rfl rfl rfl (two_of HT_.out (by kernel_rfl)) (by decide) (by decide) (fun K hK => ?_) (fun K hK => ?_)
             ·
              skip
              refine Kd.N_lit_step (Kd.slice 83 k83) _ 39 ?hg (N' := 46) ?hd (xs := ([] : List (List (S83)))) (inner := []) (ok := (fun k_ => some k_ ≠ (.slice Ao9 t471.length co9 : Value).ownBlock ∧ some k_ ≠ (.slice Ao10 t472.length co10 : Value).ownBlock ∧ some k_ ≠ (.slice Ao28 t479.length co28 : Value).ownBlock)) (okp := (fun k_ => some k_ ≠ (.slice Ao9 t471.length co9 : Value).ownBlock ∧ some k_ ≠ (.slice Ao10 t472.length co10 : Value).ownBlock ∧ some k_ ≠ (.slice Ao28 t479.length co28 : Value).ownBlock)) ?hr ?hp (fun _ hk => hk) ((show ∀ k_, w29.heap.size ≤ k_ → (fun k_ => some k_ ≠ (.slice Ao9 t471.length co9 : Value).ownBlock ∧ some k_ ≠ (.slice Ao10 t472.length co10 : Value).ownBlock ∧ some k_ ≠ (.slice Ao28 t479.length co28 : Value).ownBlock) k_ from fun k_ hk => ⟨Kd.fresh' (Kd.N_lt (by (with_reducible repeat (first | apply Kd.N_alloc | apply Kd.N_drewN | apply Kd.N_drew)); exact HO_3.out)) k_ hk, Kd.fresh' (Kd.R_lt (by (with_reducible repeat (first | apply zR | apply zS | apply zT)); exact HO_4.out)) k_ hk, Kd.fresh' (Kd.N_lt (by (with_reducible repeat (first | apply Kd.N_alloc | apply Kd.N_drewN | apply Kd.N_drew)); exact HO_7.out)) k_ hk⟩) _ (Nat.le_refl _)) (Below.refl _ _) (Nat.le_refl _) (by simp) ?_; (case hd => rfl); (case hg => rfl); (case hr => first | (go_simp; done) | (go_simp; rfl)); (case hp => exact (Reps.none _ _))
              intro v485 w32 ho33 hb hg_ hnew_
              clear hg_ hnew_
              (first | rw [← Ny484.out] at ho33 | (simp only [Int.reduceToNat] at ho33; rw [← Ny484.out] at ho33))
              have n0_ := zM (Kd.N_elder' (by (with_reducible repeat (first | apply Kd.N_alloc | apply Kd.N_drewN | apply Kd.N_drew)); exact HO_3.out) (Kd.N_base ho33) hb)
              have n1_ := zM (Kd.R_below (by (with_reducible repeat (first | apply zR | apply zS | apply zT)); exact HO_4.out) hb)
              have n2_ := zM (Kd.N_elder' (by (with_reducible repeat (first | apply Kd.N_alloc | apply Kd.N_drewN | apply Kd.N_drew)); exact HO_7.out) (Kd.N_base ho33) hb)
              have n3_ := zM (Kd.V_elder' (by (with_reducible repeat (first | apply Kd.V_alloc | apply Kd.V_drewN | apply Kd.V_drew)); exact HO491.out) (Kd.N_base ho33) hb)
              have n4_ := zM (Kd.V_elder' (by (with_reducible repeat (first | apply Kd.V_alloc | apply Kd.V_drewN | apply Kd.V_drew)); exact HO503.out) (Kd.N_base ho33) hb)
              have n5_ := zM (Kd.N_lower ho33 (zI (by repeat (first | (with_reducible first | exact HB.out | apply zU | apply zV | apply zW) | exact HB.out))))
              have n6_ := zM (zG (by repeat (first | (with_reducible first | exact HB.out | apply zU | apply zV | apply zW) | exact HB.out)) hb)
              clear HO_3
              clear HO_4
              clear HO_7
              clear HO491
              clear HO503
              clear HB
              have HO_3 := n0_
              have HO_4 := n1_
              have HO_7 := n2_
              have HO491 := n3_
              have HO503 := n4_
              have HO486 := n5_
              have HB := n6_
              clear n0_ n1_ n2_ n3_ n4_ n5_ n6_
              clear hb ho33
              refine hK.out _ _ trivial (fun hHeld => ?_)
              clear hK K
              refine norm_ (a' := ?_) ?_ ?_
              rotate_left
              ·
               show Act.put _ (some 46) _ = _
               simp only [Act.put, zA, zB, zC, i64_w, i32_w]
               rfl
              refine two_ (i := 5) (j := 8) (Ni := some 50) (Nj := some 53) #[tt, tt, tt, tt, tt, tt, tt, ff, ff, tt, tt, tt, ff, tt, ff, ff, ff, ff, ff, ff, ff, ff, ff, ff, ff, ff, ff] #[tt, tt, tt, tt, tt, ff, tt, ff, tt, tt, tt, tt, ff, tt, ff, ff, ff, ff, ff, ff, ff, ff, ff, ff, ff, ff, ff] rfl rfl rfl rfl (two_of HT_.out (by kernel_rfl)) (by decide) (by decide) (fun K hK => ?_) (fun K hK => ?_)
              ·
               skip
               refine Kd.N_append_rows_step (Kd.slice 83 k83) (w0 := w) w.heap.size (by rfl) (.tmp 46) (.tmp 49) 38 39 (.slice none 0 0) 24 rfl Try.underlying38 info39 rfl (by decide) (by omega) v485 y484 y487 _ _ _ (fun k_ => some k_ ≠ (.slice Ao10 t472.length co10 : Value).ownBlock ∧ some k_ ≠ (.slice Ao28 t479.length co28 : Value).ownBlock) (fun k_ => ((fun k_ => some k_ ≠ (.slice Ao10 t472.length co10 : Value).ownBlock ∧ some k_ ≠ (.slice Ao28 t479.length co28 : Value).ownBlock)) k_ ∧ some k_ ≠ (v485 : Value).ownBlock) rfl rfl ?aO ?aR (fun _ hk => hk) ?aF ?aB ?aS ?aL ?_
               (case aR => exact (by skip; exact Kd.V_F (Kd.V_mono (ok' := (fun k_ => ((fun k_ => some k_ ≠ (.slice Ao10 t472.length co10 : Value).ownBlock ∧ some k_ ≠ (.slice Ao28 t479.length co28 : Value).ownBlock)) k_ ∧ some k_ ≠ (v485 : Value).ownBlock)) (HO491.out) (fun k_ hk => ⟨⟨hk.1.1, hk.1.2⟩, hk.2⟩))))
               (case aB => exact (by repeat (first | (with_reducible first | exact HB.out | apply zU | apply zV | apply zW) | exact HB.out)))
               (case aF => exact (fun k_ hk => ⟨Kd.fresh' (Kd.R_lt (by (with_reducible repeat (first | apply zR | apply zS | apply zT)); exact HO_4.out)) k_ hk, Kd.fresh' (Kd.N_lt (by (with_reducible repeat (first | apply Kd.N_alloc | apply Kd.N_drewN | apply Kd.N_drew)); exact HO_7.out)) k_ hk⟩))
               (case aO => exact (by (with_reducible repeat (first | apply Kd.N_alloc | apply Kd.N_drewN | apply Kd.N_drew)); exact Kd.N_mono HO486.out (fun _ hk => ⟨hk.2.1, hk.2.2⟩)))
               (case aS => exact (zI (by repeat (first | (with_reducible first | exact HB.out | apply zU | apply zV | apply zW) | exact HB.out))))
               (case aL => have := LMc19.out; omega)
               intro v493 w34 ho hb hg hat
               rw [← Ny492.out] at ho
               have n0_ := zM (Kd.N_afterv (ok := (fun k_ => some k_ ≠ (.slice Ao10 t472.length co10 : Value).ownBlock ∧ some k_ ≠ (.slice Ao28 t479.length co28 : Value).ownBlock)) (by (with_reducible repeat (first | apply Kd.N_alloc | apply Kd.N_drewN | apply Kd.N_drew)); exact HO_3.out) hg hat)
               have n1_ := zM (Kd.R_over' (by (with_reducible repeat (first | apply zR | apply zS | apply zT)); exact HO_4.out) (Kd.N_typed (by (with_reducible repeat (first | apply Kd.N_alloc | apply Kd.N_drewN | apply Kd.N_drew)); exact HO486.out)) (by decide) hg)
               have n2_ := zM (Kd.N_afterv (ok := (fun k_ => some k_ ≠ (.slice Ao10 t472.length co10 : Value).ownBlock)) (by (with_reducible repeat (first | apply Kd.N_alloc | apply Kd.N_drewN | apply Kd.N_drew)); exact HO_7.out) hg hat)
               have n3_ := zM (Kd.V_afterv (ok := (fun k_ => some k_ ≠ (.slice Ao10 t472.length co10 : Value).ownBlock ∧ some k_ ≠ (.slice Ao28 t479.length co28 : Value).ownBlock)) (by (with_reducible repeat (first | apply Kd.V_alloc | apply Kd.V_drewN | apply Kd.V_drew)); exact HO491.out) hg hat)
               have n4_ := zM (Kd.V_afterv (ok := (fun k_ => some k_ ≠ (.slice Ao10 t472.length co10 : Value).ownBlock ∧ some k_ ≠ (.slice Ao28 t479.length co28 : Value).ownBlock)) (by (with_reducible repeat (first | apply Kd.V_alloc | apply Kd.V_drewN | apply Kd.V_drew)); exact HO503.out) hg hat)
               have n5_ := zM (hb)
               have n6_ := zM (ho)
               clear HO_3
               clear HO_4
               clear HO_7
               clear HO491
               clear HO503
               clear HB
               clear HO486
               have HO_3 := n0_
               have HO_4 := n1_
               have HO_7 := n2_
               have HO491 := n3_
               have HO503 := n4_
               have HB := n5_
               have HO494 := n6_
               clear n0_ n1_ n2_ n3_ n4_ n5_ n6_
               clear ho hb hg hat
               obtain ⟨Ao35, co35, eo35⟩ := Kd.N_slice HO494.out
               (first | subst eo35 | (injection eo35 with f1_ f2_ f3_; have f4_ := f1_.symm; have f5_ := f3_.symm; clear f1_ f2_ f3_; subst f4_; subst f5_))
               refine hK.out _ _ trivial (fun hHeld => ?_)
               clear hK K
               refine norm_ (a' := ?_) ?_ ?_
               rotate_left
               ·
                show Act.put _ (some 50) _ = _
                simp only [Act.put, zA, zB, zC, i64_w, i32_w]
                rfl
               refine two_ (i := 7) (j := 8) (Ni := some 52) (Nj := some 53) #[tt, tt, tt, tt, tt, tt, tt, tt, ff, tt, tt, tt, ff, tt, ff, ff, ff, ff, ff, ff, ff, ff, ff, ff, ff, ff, ff] #[tt, tt, tt, tt, tt, tt, tt, ff, tt, tt, tt, tt, ff, tt, ff, ff, ff, ff, ff, ff, ff, ff, ff, ff, ff, ff, ff] rfl rfl rfl rfl (two_of HT_.out (by kernel_rfl)) (by decide) (by decide) (fun K hK => ?_) (fun K hK => ?_)
               ·
                skip
                refine goes_ Try.func20 (by kernel_rfl) rfl #[.slice Ao35 y492.length co35, .slice Ao10 t472.length co10] (by rfl) rfl rfl (by (try simp only [List.map_toArray, List.map_cons, List.map_nil]); first | done | rfl | (simp only [List.length_drop, List.length_take]; rfl)) ?_
                with_reducible refine (impl_RowMany.calls k1 _ _ y492 _ _ t472 t495 _ ?side1 ?side2 ?side3 ?side4 A20.out).mono ?_
                (case side1 => repeat (first | exact (Kd.N_reads' HO494.out).2.2 | (with_reducible refine zQ ?_ _) | (with_reducible refine zO ?_ _) | (with_reducible refine zP ?_)))
                (case side2 => exact (Kd.N_reads' HO494.out).2.1)
                (case side3 => repeat (first | exact (Kd.R_reads' HO_4.out).2.2 | (with_reducible refine zQ ?_ _) | (with_reducible refine zO ?_ _) | (with_reducible refine zP ?_)))
                (case side4 => exact (Kd.R_reads' HO_4.out).2.1)
                rintro e w' ⟨rfl, ⟨nd, rfl⟩⟩
                refine ⟨_, rfl, ?_⟩
                refine hK.out _ _ trivial (fun hHeld => ?_)
                clear hK K
                refine norm_ (a' := ?_) ?_ ?_
                rotate_left
                ·
                 show Act.put _ (some 52) _ = _
                 simp only [Act.put, zA, zB, zC, i64_w, i32_w]
                 rfl
                refine one_ (i := 8) (N := some 53) #[tt, tt, tt, tt, tt, tt, tt, tt, tt, tt, tt, tt, ff, tt, ff, ff, ff, ff, ff, ff, ff, ff, ff, ff, ff, ff, ff] rfl rfl (one_of HT_.out (by kernel_rfl)) (by decide) (fun K hK => ?_)
                refine Kd.N_lit_step (Kd.slice 83 k83) _ 39 ?hg (N' := 53) ?hd (xs := ([] : List (List (S83)))) (inner := []) (ok := (fun k_ => some k_ ≠ (.slice Ao9 t471.length co9 : Value).ownBlock ∧ some k_ ≠ (.slice Ao10 t472.length co10 : Value).ownBlock ∧ some k_ ≠ (.slice Ao28 t479.length co28 : Value).ownBlock ∧ some k_ ≠ (.slice Ao35 y492.length co35 : Value).ownBlock)) (okp := (fun k_ => some k_ ≠ (.slice Ao9 t471.length co9 : Value).ownBlock ∧ some k_ ≠ (.slice Ao10 t472.length co10 : Value).ownBlock ∧ some k_ ≠ (.slice Ao28 t479.length co28 : Value).ownBlock ∧ some k_ ≠ (.slice Ao35 y492.length co35 : Value).ownBlock)) ?hr ?hp (fun _ hk => hk) ((show ∀ k_, w34.heap.size ≤ k_ → (fun k_ => some k_ ≠ (.slice Ao9 t471.length co9 : Value).ownBlock ∧ some k_ ≠ (.slice Ao10 t472.length co10 : Value).ownBlock ∧ some k_ ≠ (.slice Ao28 t479.length co28 : Value).ownBlock ∧ some k_ ≠ (.slice Ao35 y492.length co35 : Value).ownBlock) k_ from fun k_ hk => ⟨Kd.fresh' (Kd.N_lt (by (with_reducible repeat (first | apply Kd.N_alloc | apply Kd.N_drewN | apply Kd.N_drew)); exact HO_3.out)) k_ hk, Kd.fresh' (Kd.R_lt (by (with_reducible repeat (first | apply zR | apply zS | apply zT)); exact HO_4.out)) k_ hk, Kd.fresh' (Kd.N_lt (by (with_reducible repeat (first | apply Kd.N_alloc | apply Kd.N_drewN | apply Kd.N_drew)); exact HO_7.out)) k_ hk, Kd.fresh' (Kd.N_lt (by (with_reducible repeat (first | apply Kd.N_alloc | apply Kd.N_drewN | apply Kd.N_drew)); exact HO494.out)) k_ hk⟩) _ (Nat.le_refl _)) (Below.refl _ _) (Nat.le_refl _) (by simp) ?_; (case hd => rfl); (case hg => rfl); (case hr => first | (go_simp; done) | (go_simp; rfl)); (case hp => exact (Reps.none _ _))
                intro v497 w36 ho37 hb hg_ hnew_
                clear hg_ hnew_
                (first | rw [← Ny496.out] at ho37 | (simp only [Int.reduceToNat] at ho37; rw [← Ny496.out] at ho37))
                have n0_ := zM (Kd.N_elder' (by (with_reducible repeat (first | apply Kd.N_alloc | apply Kd.N_drewN | apply Kd.N_drew)); exact HO_3.out) (Kd.N_base ho37) hb)
                have n1_ := zM (Kd.R_below (by (with_reducible repeat (first | apply zR | apply zS | apply zT)); exact HO_4.out) hb)
                have n2_ := zM (Kd.N_elder' (by (with_reducible repeat (first | apply Kd.N_alloc | apply Kd.N_drewN | apply Kd.N_drew)); exact HO_7.out) (Kd.N_base ho37) hb)
                have n3_ := zM (Kd.V_elder' (by (with_reducible repeat (first | apply Kd.V_alloc | apply Kd.V_drewN | apply Kd.V_drew)); exact HO491.out) (Kd.N_base ho37) hb)
                have n4_ := zM (Kd.V_elder' (by (with_reducible repeat (first | apply Kd.V_alloc | apply Kd.V_drewN | apply Kd.V_drew)); exact HO503.out) (Kd.N_base ho37) hb)
                have n5_ := zM (Kd.N_elder' (by (with_reducible repeat (first | apply Kd.N_alloc | apply Kd.N_drewN | apply Kd.N_drew)); exact HO494.out) (Kd.N_base ho37) hb)
                have n6_ := zM (Kd.N_lower ho37 (zI (by repeat (first | (with_reducible first | exact HB.out | apply zU | apply zV | apply zW) | exact HB.out))))
                have n7_ := zM (zG (by repeat (first | (with_reducible first | exact HB.out | apply zU | apply zV | apply zW) | exact HB.out)) hb)
                clear HO_3
                clear HO_4
                clear HO_7
                clear HO491
                clear HO503
                clear HO494
                clear HB
                have HO_3 := n0_
                have HO_4 := n1_
                have HO_7 := n2_
                have HO491 := n3_
                have HO503 := n4_
                have HO494 := n5_
                have HO498 := n6_
                have HB := n7_
                clear n0_ n1_ n2_ n3_ n4_ n5_ n6_ n7_
                clear hb ho37
                refine hK.out _ _ trivial (fun hHeld => ?_)
                clear hK K
                refine norm_ (a' := ?_) ?_ ?_
                rotate_left
                ·
                 show Act.put _ (some 53) _ = _
                 simp only [Act.put, zA, zB, zC, i64_w, i32_w]
                 rfl
                exact norm_ (by simp only [putAll, Act.put, zA, zB, zC]) (hCont (v485, .slice Ao35 y492.length co35, v497) _ ⟨(by (with_reducible repeat (first | apply Kd.V_alloc | apply Kd.V_drewN | apply Kd.V_drew)); exact Kd.V_mono HO491.out (fun _ hk => ⟨hk.1.2, ⟨hk.2, ⟨hk.1.1.1, hk.1.1.2⟩⟩⟩)), (by (with_reducible repeat (first | apply Kd.N_alloc | apply Kd.N_drewN | apply Kd.N_drew)); exact Kd.N_mono HO494.out (fun _ hk => ⟨hk.2, ⟨hk.1.1, hk.1.2⟩⟩)), (by (with_reducible repeat (first | apply Kd.N_alloc | apply Kd.N_drewN | apply Kd.N_drew)); exact Kd.N_mono HO498.out (fun _ hk => ⟨hk.2.2.2, ⟨hk.1, ⟨hk.2.1, hk.2.2.1⟩⟩⟩)), (by (with_reducible repeat (first | apply Kd.V_alloc | apply Kd.V_drewN | apply Kd.V_drew)); exact Kd.V_mono HO503.out (fun _ hk => ⟨hk.1.2, ⟨hk.2, ⟨hk.1.1.1, hk.1.1.2⟩⟩⟩)), (by (with_reducible repeat (first | apply Kd.N_alloc | apply Kd.N_drewN | apply Kd.N_drew)); exact Kd.N_mono HO_3.out (fun _ hk => ⟨hk.1.2, ⟨hk.2, ⟨hk.1.1.1, hk.1.1.2⟩⟩⟩)), (by (with_reducible repeat (first | apply zR | apply zS | apply zT)); exact HO_4.out), (by (with_reducible repeat (first | apply Kd.N_alloc | apply Kd.N_drewN | apply Kd.N_drew)); exact Kd.N_mono HO_7.out (fun _ hk => ⟨hk.1.2, ⟨hk.2, hk.1.1⟩⟩)), (by repeat (first | (with_reducible first | exact HB.out | apply zU | apply zV | apply zW) | exact HB.out))⟩)
               ·
                skip
                refine Kd.N_lit_step (Kd.slice 83 k83) _ 39 ?hg (N' := 53) ?hd (xs := ([] : List (List (S83)))) (inner := []) (ok := (fun k_ => some k_ ≠ (.slice Ao9 t471.length co9 : Value).ownBlock ∧ some k_ ≠ (.slice Ao10 t472.length co10 : Value).ownBlock ∧ some k_ ≠ (.slice Ao28 t479.length co28 : Value).ownBlock ∧ some k_ ≠ (.slice Ao35 y492.length co35 : Value).ownBlock)) (okp := (fun k_ => some k_ ≠ (.slice Ao9 t471.length co9 : Value).ownBlock ∧ some k_ ≠ (.slice Ao10 t472.length co10 : Value).ownBlock ∧ some k_ ≠ (.slice Ao28 t479.length co28 : Value).ownBlock ∧ some k_ ≠ (.slice Ao35 y492.length co35 : Value).ownBlock)) ?hr ?hp (fun _ hk => hk) ((show ∀ k_, w34.heap.size ≤ k_ → (fun k_ => some k_ ≠ (.slice Ao9 t471.length co9 : Value).ownBlock ∧ some k_ ≠ (.slice Ao10 t472.length co10 : Value).ownBlock ∧ some k_ ≠ (.slice Ao28 t479.length co28 : Value).ownBlock ∧ some k_ ≠ (.slice Ao35 y492.length co35 : Value).ownBlock) k_ from fun k_ hk => ⟨Kd.fresh' (Kd.N_lt (by (with_reducible repeat (first | apply Kd.N_alloc | apply Kd.N_drewN | apply Kd.N_drew)); exact HO_3.out)) k_ hk, Kd.fresh' (Kd.R_lt (by (with_reducible repeat (first | apply zR | apply zS | apply zT)); exact HO_4.out)) k_ hk, Kd.fresh' (Kd.N_lt (by (with_reducible repeat (first | apply Kd.N_alloc | apply Kd.N_drewN | apply Kd.N_drew)); exact HO_7.out)) k_ hk, Kd.fresh' (Kd.N_lt (by (with_reducible repeat (first | apply Kd.N_alloc | apply Kd.N_drewN | apply Kd.N_drew)); exact HO494.out)) k_ hk⟩) _ (Nat.le_refl _)) (Below.refl _ _) (Nat.le_refl _) (by simp) ?_; (case hd => rfl); (case hg => rfl); (case hr => first | (go_simp; done) | (go_simp; rfl)); (case hp => exact (Reps.none _ _))
                intro v497 w35 ho36 hb hg_ hnew_
                clear hg_ hnew_
                (first | rw [← Ny496.out] at ho36 | (simp only [Int.reduceToNat] at ho36; rw [← Ny496.out] at ho36))
                have n0_ := zM (Kd.N_elder' (by (with_reducible repeat (first | apply Kd.N_alloc | apply Kd.N_drewN | apply Kd.N_drew)); exact HO_3.out) (Kd.N_base ho36) hb)
                have n1_ := zM (Kd.R_below (by (with_reducible repeat (first | apply zR | apply zS | apply zT)); exact HO_4.out) hb)
                have n2_ := zM (Kd.N_elder' (by (with_reducible repeat (first | apply Kd.N_alloc | apply Kd.N_drewN | apply Kd.N_drew)); exact HO_7.out) (Kd.N_base ho36) hb)
                have n3_ := zM (Kd.V_elder' (by (with_reducible repeat (first | apply Kd.V_alloc | apply Kd.V_drewN | apply Kd.V_drew)); exact HO491.out) (Kd.N_base ho36) hb)
                have n4_ := zM (Kd.V_elder' (by (with_reducible repeat (first | apply Kd.V_alloc | apply Kd.V_drewN | apply Kd.V_drew)); exact HO503.out) (Kd.N_base ho36) hb)
                have n5_ := zM (Kd.N_elder' (by (with_reducible repeat (first | apply Kd.N_alloc | apply Kd.N_drewN | apply Kd.N_drew)); exact HO494.out) (Kd.N_base ho36) hb)
                have n6_ := zM (Kd.N_lower ho36 (zI (by repeat (first | (with_reducible first | exact HB.out | apply zU | apply zV | apply zW) | exact HB.out))))
                have n7_ := zM (zG (by repeat (first | (with_reducible first | exact HB.out | apply zU | apply zV | apply zW) | exact HB.out)) hb)
                clear HO_3
                clear HO_4
                clear HO_7
                clear HO491
                clear HO503
                clear HO494
                clear HB
                have HO_3 := n0_
                have HO_4 := n1_
                have HO_7 := n2_
                have HO491 := n3_
                have HO503 := n4_
                have HO494 := n5_
                have HO498 := n6_
                have HB := n7_
                clear n0_ n1_ n2_ n3_ n4_ n5_ n6_ n7_
                clear hb ho36
                obtain ⟨Ao37, co37, eo37⟩ := Kd.N_slice HO494.out
                (first | subst eo37 | (injection eo37 with f1_ f2_ f3_; have f4_ := f1_.symm; have f5_ := f3_.symm; clear f1_ f2_ f3_; subst f4_; subst f5_))
                refine hK.out _ _ trivial (fun hHeld => ?_)
                clear hK K
                refine norm_ (a' := ?_) ?_ ?_
                rotate_left
                ·
                 show Act.put _ (some 53) _ = _
                 simp only [Act.put, zA, zB, zC, i64_w, i32_w]
                 rfl
                refine one_ (i := 7) (N := some 52) #[tt, tt, tt, tt, tt, tt, tt, tt, tt, tt, tt, tt, ff, tt, ff, ff, ff, ff, ff, ff, ff, ff, ff, ff, ff, ff, ff] rfl rfl (one_of HT_.out (by kernel_rfl)) (by decide) (fun K hK => ?_)
                refine goes_ Try.func20 (by kernel_rfl) rfl #[.slice Ao37 y492.length co37, .slice Ao10 t472.length co10] (by rfl) rfl rfl (by (try simp only [List.map_toArray, List.map_cons, List.map_nil]); first | done | rfl | (simp only [List.length_drop, List.length_take]; rfl)) ?_
                with_reducible refine (impl_RowMany.calls k1 _ _ y492 _ _ t472 t495 _ ?side1 ?side2 ?side3 ?side4 A20.out).mono ?_
                (case side1 => repeat (first | exact (Kd.N_reads' HO494.out).2.2 | (with_reducible refine zQ ?_ _) | (with_reducible refine zO ?_ _) | (with_reducible refine zP ?_)))
                (case side2 => exact (Kd.N_reads' HO494.out).2.1)
                (case side3 => repeat (first | exact (Kd.R_reads' HO_4.out).2.2 | (with_reducible refine zQ ?_ _) | (with_reducible refine zO ?_ _) | (with_reducible refine zP ?_)))
                (case side4 => exact (Kd.R_reads' HO_4.out).2.1)
                rintro e w' ⟨rfl, ⟨nd, rfl⟩⟩
                refine ⟨_, rfl, ?_⟩
                refine hK.out _ _ trivial (fun hHeld => ?_)
                clear hK K
                refine norm_ (a' := ?_) ?_ ?_
                rotate_left
                ·
                 show Act.put _ (some 52) _ = _
                 simp only [Act.put, zA, zB, zC, i64_w, i32_w]
                 rfl
                exact norm_ (by simp only [putAll, Act.put, zA, zB, zC]) (hCont (v485, .slice Ao37 y492.length co37, v497) _ ⟨(by (with_reducible repeat (first | apply Kd.V_alloc | apply Kd.V_drewN | apply Kd.V_drew)); exact Kd.V_mono HO491.out (fun _ hk => ⟨hk.1.2, ⟨hk.2, ⟨hk.1.1.1, hk.1.1.2⟩⟩⟩)), (by (with_reducible repeat (first | apply Kd.N_alloc | apply Kd.N_drewN | apply Kd.N_drew)); exact Kd.N_mono HO494.out (fun _ hk => ⟨hk.2, ⟨hk.1.1, hk.1.2⟩⟩)), (by (with_reducible repeat (first | apply Kd.N_alloc | apply Kd.N_drewN | apply Kd.N_drew)); exact Kd.N_mono HO498.out (fun _ hk => ⟨hk.2.2.2, ⟨hk.1, ⟨hk.2.1, hk.2.2.1⟩⟩⟩)), (by (with_reducible repeat (first | apply Kd.V_alloc | apply Kd.V_drewN | apply Kd.V_drew)); exact Kd.V_mono HO503.out (fun _ hk => ⟨hk.1.2, ⟨hk.2, ⟨hk.1.1.1, hk.1.1.2⟩⟩⟩)), (by (with_reducible repeat (first | apply Kd.N_alloc | apply Kd.N_drewN | apply Kd.N_drew)); exact Kd.N_mono HO_3.out (fun _ hk => ⟨hk.1.2, ⟨hk.2, ⟨hk.1.1.1, hk.1.1.2⟩⟩⟩)), (by (with_reducible repeat (first | apply zR | apply zS | apply zT)); exact HO_4.out), (by (with_reducible repeat (first | apply Kd.N_alloc | apply Kd.N_drewN | apply Kd.N_drew)); exact Kd.N_mono HO_7.out (fun _ hk => ⟨hk.1.2, ⟨hk.2, hk.1.1⟩⟩)), (by repeat (first | (with_reducible first | exact HB.out | apply zU | apply zV | apply zW) | exact HB.out))⟩)
              ·
               skip
               refine Kd.N_lit_step (Kd.slice 83 k83) _ 39 ?hg (N' := 53) ?hd (xs := ([] : List (List (S83)))) (inner := []) (ok := (fun k_ => some k_ ≠ (.slice Ao9 t471.length co9 : Value).ownBlock ∧ some k_ ≠ (.slice Ao10 t472.length co10 : Value).ownBlock ∧ some k_ ≠ (.slice Ao28 t479.length co28 : Value).ownBlock ∧ some k_ ≠ (v485 : Value).ownBlock)) (okp := (fun k_ => some k_ ≠ (.slice Ao9 t471.length co9 : Value).ownBlock ∧ some k_ ≠ (.slice Ao10 t472.length co10 : Value).ownBlock ∧ some k_ ≠ (.slice Ao28 t479.length co28 : Value).ownBlock ∧ some k_ ≠ (v485 : Value).ownBlock)) ?hr ?hp (fun _ hk => hk) ((show ∀ k_, w32.heap.size ≤ k_ → (fun k_ => some k_ ≠ (.slice Ao9 t471.length co9 : Value).ownBlock ∧ some k_ ≠ (.slice Ao10 t472.length co10 : Value).ownBlock ∧ some k_ ≠ (.slice Ao28 t479.length co28 : Value).ownBlock ∧ some k_ ≠ (v485 : Value).ownBlock) k_ from fun k_ hk => ⟨Kd.fresh' (Kd.N_lt (by (with_reducible repeat (first | apply Kd.N_alloc | apply Kd.N_drewN | apply Kd.N_drew)); exact HO_3.out)) k_ hk, Kd.fresh' (Kd.R_lt (by (with_reducible repeat (first | apply zR | apply zS | apply zT)); exact HO_4.out)) k_ hk, Kd.fresh' (Kd.N_lt (by (with_reducible repeat (first | apply Kd.N_alloc | apply Kd.N_drewN | apply Kd.N_drew)); exact HO_7.out)) k_ hk, Kd.fresh' (Kd.N_lt (by (with_reducible repeat (first | apply Kd.N_alloc | apply Kd.N_drewN | apply Kd.N_drew)); exact HO486.out)) k_ hk⟩) _ (Nat.le_refl _)) (Below.refl _ _) (Nat.le_refl _) (by simp) ?_; (case hd => rfl); (case hg => rfl); (case hr => first | (go_simp; done) | (go_simp; rfl)); (case hp => exact (Reps.none _ _))
               intro v497 w34 ho35 hb hg_ hnew_
               clear hg_ hnew_
               (first | rw [← Ny496.out] at ho35 | (simp only [Int.reduceToNat] at ho35; rw [← Ny496.out] at ho35))
               have n0_ := zM (Kd.N_elder' (by (with_reducible repeat (first | apply Kd.N_alloc | apply Kd.N_drewN | apply Kd.N_drew)); exact HO_3.out) (Kd.N_base ho35) hb)
               have n1_ := zM (Kd.R_below (by (with_reducible repeat (first | apply zR | apply zS | apply zT)); exact HO_4.out) hb)
               have n2_ := zM (Kd.N_elder' (by (with_reducible repeat (first | apply Kd.N_alloc | apply Kd.N_drewN | apply Kd.N_drew)); exact HO_7.out) (Kd.N_base ho35) hb)
               have n3_ := zM (Kd.V_elder' (by (with_reducible repeat (first | apply Kd.V_alloc | apply Kd.V_drewN | apply Kd.V_drew)); exact HO491.out) (Kd.N_base ho35) hb)
               have n4_ := zM (Kd.V_elder' (by (with_reducible repeat (first | apply Kd.V_alloc | apply Kd.V_drewN | apply Kd.V_drew)); exact HO503.out) (Kd.N_base ho35) hb)
               have n5_ := zM (Kd.N_elder' (by (with_reducible repeat (first | apply Kd.N_alloc | apply Kd.N_drewN | apply Kd.N_drew)); exact HO486.out) (Kd.N_base ho35) hb)
               have n6_ := zM (Kd.N_lower ho35 (zI (by repeat (first | (with_reducible first | exact HB.out | apply zU | apply zV | apply zW) | exact HB.out))))
               have n7_ := zM (zG (by repeat (first | (with_reducible first | exact HB.out | apply zU | apply zV | apply zW) | exact HB.out)) hb)
               clear HO_3
               clear HO_4
               clear HO_7
               clear HO491
               clear HO503
               clear HO486
               clear HB
               have HO_3 := n0_
               have HO_4 := n1_
               have HO_7 := n2_
               have HO491 := n3_
               have HO503 := n4_
               have HO486 := n5_
               have HO498 := n6_
               have HB := n7_
               clear n0_ n1_ n2_ n3_ n4_ n5_ n6_ n7_
               clear hb ho35
               refine hK.out _ _ trivial (fun hHeld => ?_)
               clear hK K
               refine norm_ (a' := ?_) ?_ ?_
               rotate_left
               ·
                show Act.put _ (some 53) _ = _
                simp only [Act.put, zA, zB, zC, i64_w, i32_w]
                rfl
               refine one_ (i := 5) (N := some 50) #[tt, tt, tt, tt, tt, tt, tt, ff, tt, tt, tt, tt, ff, tt, ff, ff, ff, ff, ff, ff, ff, ff, ff, ff, ff, ff, ff] rfl rfl (one_of HT_.out (by kernel_rfl)) (by decide) (fun K hK => ?_)
               refine Kd.N_append_rows_step (Kd.slice 83 k83) (w0 := w) w.heap.size (by rfl) (.tmp 46) (.tmp 49) 38 39 (.slice none 0 0) 24 rfl Try.underlying38 info39 rfl (by decide) (by omega) v485 y484 y487 _ _ _ (fun k_ => some k_ ≠ (.slice Ao10 t472.length co10 : Value).ownBlock ∧ some k_ ≠ (.slice Ao28 t479.length co28 : Value).ownBlock ∧ some k_ ≠ (v497 : Value).ownBlock) (fun k_ => ((fun k_ => some k_ ≠ (.slice Ao10 t472.length co10 : Value).ownBlock ∧ some k_ ≠ (.slice Ao28 t479.length co28 : Value).ownBlock ∧ some k_ ≠ (v497 : Value).ownBlock)) k_ ∧ some k_ ≠ (v485 : Value).ownBlock) rfl rfl ?aO ?aR (fun _ hk => hk) ?aF ?aB ?aS ?aL ?_
               (case aR => exact (by skip; exact Kd.V_F (Kd.V_mono (ok' := (fun k_ => ((fun k_ => some k_ ≠ (.slice Ao10 t472.length co10 : Value).ownBlock ∧ some k_ ≠ (.slice Ao28 t479.length co28 : Value).ownBlock ∧ some k_ ≠ (v497 : Value).ownBlock)) k_ ∧ some k_ ≠ (v485 : Value).ownBlock)) (HO491.out) (fun k_ hk => ⟨⟨hk.1.1.1, ⟨hk.1.1.2, hk.2⟩⟩, hk.1.2⟩))))
               (case aB => exact (by repeat (first | (with_reducible first | exact HB.out | apply zU | apply zV | apply zW) | exact HB.out)))
               (case aF => exact (fun k_ hk => ⟨Kd.fresh' (Kd.R_lt (by (with_reducible repeat (first | apply zR | apply zS | apply zT)); exact HO_4.out)) k_ hk, Kd.fresh' (Kd.N_lt (by (with_reducible repeat (first | apply Kd.N_alloc | apply Kd.N_drewN | apply Kd.N_drew)); exact HO_7.out)) k_ hk, Kd.fresh' (Kd.N_lt (by (with_reducible repeat (first | apply Kd.N_alloc | apply Kd.N_drewN | apply Kd.N_drew)); exact HO498.out)) k_ hk⟩))
               (case aO => exact (by (with_reducible repeat (first | apply Kd.N_alloc | apply Kd.N_drewN | apply Kd.N_drew)); exact Kd.N_mono HO486.out (fun _ hk => ⟨hk.1.2.1, ⟨hk.1.2.2, hk.2⟩⟩)))
               (case aS => exact (zI (by repeat (first | (with_reducible first | exact HB.out | apply zU | apply zV | apply zW) | exact HB.out))))
               (case aL => have := LMc19.out; omega)
               intro v493 w36 ho hb hg hat
               rw [← Ny492.out] at ho
               have n0_ := zM (Kd.N_afterv (ok := (fun k_ => some k_ ≠ (.slice Ao10 t472.length co10 : Value).ownBlock ∧ some k_ ≠ (.slice Ao28 t479.length co28 : Value).ownBlock ∧ some k_ ≠ (v497 : Value).ownBlock)) (by (with_reducible repeat (first | apply Kd.N_alloc | apply Kd.N_drewN | apply Kd.N_drew)); exact Kd.N_mono HO_3.out (fun _ hk => ⟨⟨hk.1.1.1, ⟨hk.1.1.2, hk.2⟩⟩, hk.1.2⟩)) hg hat)
               have n1_ := zM (Kd.R_over' (by (with_reducible repeat (first | apply zR | apply zS | apply zT)); exact HO_4.out) (Kd.N_typed (by (with_reducible repeat (first | apply Kd.N_alloc | apply Kd.N_drewN | apply Kd.N_drew)); exact HO486.out)) (by decide) hg)
               have n2_ := zM (Kd.N_afterv (ok := (fun k_ => some k_ ≠ (.slice Ao10 t472.length co10 : Value).ownBlock ∧ some k_ ≠ (v497 : Value).ownBlock)) (by (with_reducible repeat (first | apply Kd.N_alloc | apply Kd.N_drewN | apply Kd.N_drew)); exact Kd.N_mono HO_7.out (fun _ hk => ⟨⟨hk.1.1, hk.2⟩, hk.1.2⟩)) hg hat)
               have n3_ := zM (Kd.V_afterv (ok := (fun k_ => some k_ ≠ (.slice Ao10 t472.length co10 : Value).ownBlock ∧ some k_ ≠ (.slice Ao28 t479.length co28 : Value).ownBlock ∧ some k_ ≠ (v497 : Value).ownBlock)) (by (with_reducible repeat (first | apply Kd.V_alloc | apply Kd.V_drewN | apply Kd.V_drew)); exact Kd.V_mono HO491.out (fun _ hk => ⟨⟨hk.1.1.1, ⟨hk.1.1.2, hk.2⟩⟩, hk.1.2⟩)) hg hat)
               have n4_ := zM (Kd.V_afterv (ok := (fun k_ => some k_ ≠ (.slice Ao10 t472.length co10 : Value).ownBlock ∧ some k_ ≠ (.slice Ao28 t479.length co28 : Value).ownBlock ∧ some k_ ≠ (v497 : Value).ownBlock)) (by (with_reducible repeat (first | apply Kd.V_alloc | apply Kd.V_drewN | apply Kd.V_drew)); exact Kd.V_mono HO503.out (fun _ hk => ⟨⟨hk.1.1.1, ⟨hk.1.1.2, hk.2⟩⟩, hk.1.2⟩)) hg hat)
               have n5_ := zM (Kd.N_afterv (ok := (fun k_ => some k_ ≠ (.slice Ao9 t471.length co9 : Value).ownBlock ∧ some k_ ≠ (.slice Ao10 t472.length co10 : Value).ownBlock ∧ some k_ ≠ (.slice Ao28 t479.length co28 : Value).ownBlock)) (by (with_reducible repeat (first | apply Kd.N_alloc | apply Kd.N_drewN | apply Kd.N_drew)); exact Kd.N_mono HO498.out (fun _ hk => ⟨⟨hk.1, ⟨hk.2.1, hk.2.2.1⟩⟩, hk.2.2.2⟩)) hg hat)
               have n6_ := zM (hb)
               have n7_ := zM (ho)
               clear HO_3
               clear HO_4
               clear HO_7
               clear HO491
               clear HO503
               clear HO498
               clear HB
               clear HO486
               have HO_3 := n0_
               have HO_4 := n1_
               have HO_7 := n2_
               have HO491 := n3_
               have HO503 := n4_
               have HO498 := n5_
               have HB := n6_
               have HO494 := n7_
               clear n0_ n1_ n2_ n3_ n4_ n5_ n6_ n7_
               clear ho hb hg hat
               obtain ⟨Ao37, co37, eo37⟩ := Kd.N_slice HO494.out
               (first | subst eo37 | (injection eo37 with f1_ f2_ f3_; have f4_ := f1_.symm; have f5_ := f3_.symm; clear f1_ f2_ f3_; subst f4_; subst f5_))
               refine hK.out _ _ trivial (fun hHeld => ?_)
               clear hK K
               refine norm_ (a' := ?_) ?_ ?_
               rotate_left
               ·
                show Act.put _ (some 50) _ = _
                simp only [Act.put, zA, zB, zC, i64_w, i32_w]
                rfl
               refine one_ (i := 7) (N := some 52) #[tt, tt, tt, tt, tt, tt, tt, tt, tt, tt, tt, tt, ff, tt, ff, ff, ff, ff, ff, ff, ff, ff, ff, ff, ff, ff, ff] rfl rfl (one_of HT_.out (by kernel_rfl)) (by decide) (fun K hK => ?_)
               refine goes_ Try.func20 (by kernel_rfl) rfl #[.slice Ao37 y492.length co37, .slice Ao10 t472.length co10] (by rfl) rfl rfl (by (try simp only [List.map_toArray, List.map_cons, List.map_nil]); first | done | rfl | (simp only [List.length_drop, List.length_take]; rfl)) ?_
               with_reducible refine (impl_RowMany.calls k1 _ _ y492 _ _ t472 t495 _ ?side1 ?side2 ?side3 ?side4 A20.out).mono ?_
               (case side1 => repeat (first | exact (Kd.N_reads' HO494.out).2.2 | (with_reducible refine zQ ?_ _) | (with_reducible refine zO ?_ _) | (with_reducible refine zP ?_)))
               (case side2 => exact (Kd.N_reads' HO494.out).2.1)
               (case side3 => repeat (first | exact (Kd.R_reads' HO_4.out).2.2 | (with_reducible refine zQ ?_ _) | (with_reducible refine zO ?_ _) | (with_reducible refine zP ?_)))
               (case side4 => exact (Kd.R_reads' HO_4.out).2.1)
               rintro e w' ⟨rfl, ⟨nd, rfl⟩⟩
               refine ⟨_, rfl, ?_⟩
               refine hK.out _ _ trivial (fun hHeld => ?_)
               clear hK K
               refine norm_ (a' := ?_) ?_ ?_
               rotate_left
               ·
                show Act.put _ (some 52) _ = _
                simp only [Act.put, zA, zB, zC, i64_w, i32_w]
                rfl
               exact norm_ (by simp only [putAll, Act.put, zA, zB, zC]) (hCont (v485, .slice Ao37 y492.length co37, v497) _ ⟨(by (with_reducible repeat (first | apply Kd.V_alloc | apply Kd.V_drewN | apply Kd.V_drew)); exact Kd.V_mono HO491.out (fun _ hk => ⟨hk.2, ⟨hk.1.2.2, ⟨hk.1.1, hk.1.2.1⟩⟩⟩)), (by (with_reducible repeat (first | apply Kd.N_alloc | apply Kd.N_drewN | apply Kd.N_drew)); exact Kd.N_mono HO494.out (fun _ hk => ⟨hk.2.2, ⟨hk.1, hk.2.1⟩⟩)), (by (with_reducible repeat (first | apply Kd.N_alloc | apply Kd.N_drewN | apply Kd.N_drew)); exact Kd.N_mono HO498.out (fun _ hk => ⟨hk.2, ⟨hk.1.1, ⟨hk.1.2.1, hk.1.2.2⟩⟩⟩)), (by (with_reducible repeat (first | apply Kd.V_alloc | apply Kd.V_drewN | apply Kd.V_drew)); exact Kd.V_mono HO503.out (fun _ hk => ⟨hk.2, ⟨hk.1.2.2, ⟨hk.1.1, hk.1.2.1⟩⟩⟩)), (by (with_reducible repeat (first | apply Kd.N_alloc | apply Kd.N_drewN | apply Kd.N_drew)); exact Kd.N_mono HO_3.out (fun _ hk => ⟨hk.2, ⟨hk.1.2.2, ⟨hk.1.1, hk.1.2.1⟩⟩⟩)), (by (with_reducible repeat (first | apply zR | apply zS | apply zT)); exact HO_4.out), (by (with_reducible repeat (first | apply Kd.N_alloc | apply Kd.N_drewN | apply Kd.N_drew)); exact Kd.N_mono HO_7.out (fun _ hk => ⟨hk.2, ⟨hk.1.2, hk.1.1⟩⟩)), (by repeat (first | (with_reducible first | exact HB.out | apply zU | apply zV | apply zW) | exact HB.out))⟩)
             ·
              skip
              refine Kd.N_lit_step (Kd.slice 83 k83) _ 39 ?hg (N' := 53) ?hd (xs := ([] : List (List (S83)))) (inner := []) (ok := (fun k_ => some k_ ≠ (.slice Ao9 t471.length co9 : Value).ownBlock ∧ some k_ ≠ (.slice Ao10 t472.length co10 : Value).ownBlock ∧ some k_ ≠ (.slice Ao28 t479.length co28 : Value).ownBlock)) (okp := (fun k_ => some k_ ≠ (.slice Ao9 t471.length co9 : Value).ownBlock ∧ some k_ ≠ (.slice Ao10 t472.length co10 : Value).ownBlock ∧ some k_ ≠ (.slice Ao28 t479.length co28 : Value).ownBlock)) ?hr ?hp (fun _ hk => hk) ((show ∀ k_, w29.heap.size ≤ k_ → (fun k_ => some k_ ≠ (.slice Ao9 t471.length co9 : Value).ownBlock ∧ some k_ ≠ (.slice Ao10 t472.length co10 : Value).ownBlock ∧ some k_ ≠ (.slice Ao28 t479.length co28 : Value).ownBlock) k_ from fun k_ hk => ⟨Kd.fresh' (Kd.N_lt (by (with_reducible repeat (first | apply Kd.N_alloc | apply Kd.N_drewN | apply Kd.N_drew)); exact HO_3.out)) k_ hk, Kd.fresh' (Kd.R_lt (by (with_reducible repeat (first | apply zR | apply zS | apply zT)); exact HO_4.out)) k_ hk, Kd.fresh' (Kd.N_lt (by (with_reducible repeat (first | apply Kd.N_alloc | apply Kd.N_drewN | apply Kd.N_drew)); exact HO_7.out)) k_ hk⟩) _ (Nat.le_refl _)) (Below.refl _ _) (Nat.le_refl _) (by simp) ?_; (case hd => rfl); (case hg => rfl); (case hr => first | (go_simp; done) | (go_simp; rfl)); (case hp => exact (Reps.none _ _))
              intro v497 w32 ho33 hb hg_ hnew_
              clear hg_ hnew_
              (first | rw [← Ny496.out] at ho33 | (simp only [Int.reduceToNat] at ho33; rw [← Ny496.out] at ho33))
              have n0_ := zM (Kd.N_elder' (by (with_reducible repeat (first | apply Kd.N_alloc | apply Kd.N_drewN | apply Kd.N_drew)); exact HO_3.out) (Kd.N_base ho33) hb)
              have n1_ := zM (Kd.R_below (by (with_reducible repeat (first | apply zR | apply zS | apply zT)); exact HO_4.out) hb)
              have n2_ := zM (Kd.N_elder' (by (with_reducible repeat (first | apply Kd.N_alloc | apply Kd.N_drewN | apply Kd.N_drew)); exact HO_7.out) (Kd.N_base ho33) hb)
              have n3_ := zM (Kd.V_elder' (by (with_reducible repeat (first | apply Kd.V_alloc | apply Kd.V_drewN | apply Kd.V_drew)); exact HO491.out) (Kd.N_base ho33) hb)
              have n4_ := zM (Kd.V_elder' (by (with_reducible repeat (first | apply Kd.V_alloc | apply Kd.V_drewN | apply Kd.V_drew)); exact HO503.out) (Kd.N_base ho33) hb)
              have n5_ := zM (Kd.N_lower ho33 (zI (by repeat (first | (with_reducible first | exact HB.out | apply zU | apply zV | apply zW) | exact HB.out))))
              have n6_ := zM (zG (by repeat (first | (with_reducible first | exact HB.out | apply zU | apply zV | apply zW) | exact HB.out)) hb)
              clear HO_3
              clear HO_4
              clear HO_7
              clear HO491
              clear HO503
              clear HB
              have HO_3 := n0_
              have HO_4 := n1_
              have HO_7 := n2_
              have HO491 := n3_
              have HO503 := n4_
              have HO498 := n5_
              have HB := n6_
              clear n0_ n1_ n2_ n3_ n4_ n5_ n6_
              clear hb ho33
              refine hK.out _ _ trivial (fun hHeld => ?_)
              clear hK K
              refine norm_ (a' := ?_) ?_ ?_
              rotate_left
              ·
               show Act.put _ (some 53) _ = _
               simp only [Act.put, zA, zB, zC, i64_w, i32_w]
               rfl
              refine one_ (i := 1) (N := some 46) #[tt, tt, tt, tt, tt, ff, tt, ff, tt, tt, tt, tt, ff, tt, ff, ff, ff, ff, ff, ff, ff, ff, ff, ff, ff, ff, ff] rfl rfl (one_of HT_.out (by kernel_rfl)) (by decide) (fun K hK => ?_)
              refine Kd.N_lit_step (Kd.slice 83 k83) _ 39 ?hg (N' := 46) ?hd (xs := ([] : List (List (S83)))) (inner := []) (ok := (fun k_ => some k_ ≠ (.slice Ao9 t471.length co9 : Value).ownBlock ∧ some k_ ≠ (.slice Ao10 t472.length co10 : Value).ownBlock ∧ some k_ ≠ (.slice Ao28 t479.length co28 : Value).ownBlock ∧ some k_ ≠ (v497 : Value).ownBlock)) (okp := (fun k_ => some k_ ≠ (.slice Ao9 t471.length co9 : Value).ownBlock ∧ some k_ ≠ (.slice Ao10 t472.length co10 : Value).ownBlock ∧ some k_ ≠ (.slice Ao28 t479.length co28 : Value).ownBlock ∧ some k_ ≠ (v497 : Value).ownBlock)) ?hr ?hp (fun _ hk => hk) ((show ∀ k_, w32.heap.size ≤ k_ → (fun k_ => some k_ ≠ (.slice Ao9 t471.length co9 : Value).ownBlock ∧ some k_ ≠ (.slice Ao10 t472.length co10 : Value).ownBlock ∧ some k_ ≠ (.slice Ao28 t479.length co28 : Value).ownBlock ∧ some k_ ≠ (v497 : Value).ownBlock) k_ from fun k_ hk => ⟨Kd.fresh' (Kd.N_lt (by (with_reducible repeat (first | apply Kd.N_alloc | apply Kd.N_drewN | apply Kd.N_drew)); exact HO_3.out)) k_ hk, Kd.fresh' (Kd.R_lt (by (with_reducible repeat (first | apply zR | apply zS | apply zT)); exact HO_4.out)) k_ hk, Kd.fresh' (Kd.N_lt (by (with_reducible repeat (first | apply Kd.N_alloc | apply Kd.N_drewN | apply Kd.N_drew)); exact HO_7.out)) k_ hk, Kd.fresh' (Kd.N_lt (by (with_reducible repeat (first | apply Kd.N_alloc | apply Kd.N_drewN | apply Kd.N_drew)); exact HO498.out)) k_ hk⟩) _ (Nat.le_refl _)) (Below.refl _ _) (Nat.le_refl _) (by simp) ?_; (case hd => rfl); (case hg => rfl); (case hr => first | (go_simp; done) | (go_simp; rfl)); (case hp => exact (Reps.none _ _))
              intro v485 w34 ho35 hb hg_ hnew_
              clear hg_ hnew_
              (first | rw [← Ny484.out] at ho35 | (simp only [Int.reduceToNat] at ho35; rw [← Ny484.out] at ho35))
              have n0_ := zM (Kd.N_elder' (by (with_reducible repeat (first | apply Kd.N_alloc | apply Kd.N_drewN | apply Kd.N_drew)); exact HO_3.out) (Kd.N_base ho35) hb)
              have n1_ := zM (Kd.R_below (by (with_reducible repeat (first | apply zR | apply zS | apply zT)); exact HO_4.out) hb)
              have n2_ := zM (Kd.N_elder' (by (with_reducible repeat (first | apply Kd.N_alloc | apply Kd.N_drewN | apply Kd.N_drew)); exact HO_7.out) (Kd.N_base ho35) hb)
              have n3_ := zM (Kd.V_elder' (by (with_reducible repeat (first | apply Kd.V_alloc | apply Kd.V_drewN | apply Kd.V_drew)); exact HO491.out) (Kd.N_base ho35) hb)
              have n4_ := zM (Kd.V_elder' (by (with_reducible repeat (first | apply Kd.V_alloc | apply Kd.V_drewN | apply Kd.V_drew)); exact HO503.out) (Kd.N_base ho35) hb)
              have n5_ := zM (Kd.N_elder' (by (with_reducible repeat (first | apply Kd.N_alloc | apply Kd.N_drewN | apply Kd.N_drew)); exact HO498.out) (Kd.N_base ho35) hb)
              have n6_ := zM (Kd.N_lower ho35 (zI (by repeat (first | (with_reducible first | exact HB.out | apply zU | apply zV | apply zW) | exact HB.out))))
              have n7_ := zM (zG (by repeat (first | (with_reducible first | exact HB.out | apply zU | apply zV | apply zW) | exact HB.out)) hb)
              clear HO_3
              clear HO_4
              clear HO_7
              clear HO491
              clear HO503
              clear HO498
              clear HB
              have HO_3 := n0_
              have HO_4 := n1_
              have HO_7 := n2_
              have HO491 := n3_
              have HO503 := n4_
              have HO498 := n5_
              have HO486 := n6_
              have HB := n7_
              clear n0_ n1_ n2_ n3_ n4_ n5_ n6_ n7_
              clear hb ho35
              refine hK.out _ _ trivial (fun hHeld => ?_)
              clear hK K
              refine norm_ (a' := ?_) ?_ ?_
              rotate_left
              ·
               show Act.put _ (some 46) _ = _
               simp only [Act.put, zA, zB, zC, i64_w, i32_w]
               rfl
              refine one_ (i := 5) (N := some 50) #[tt, tt, tt, tt, tt, tt, tt, ff, tt, tt, tt, tt, ff, tt, ff, ff, ff, ff, ff, ff, ff, ff, ff, ff, ff, ff, ff] rfl rfl (one_of HT_.out (by kernel_rfl)) (by decide) (fun K hK => ?_)
              refine Kd.N_append_rows_step (Kd.slice 83 k83) (w0 := w) w.heap.size (by rfl) (.tmp 46) (.tmp 49) 38 39 (.slice none 0 0) 24 rfl Try.underlying38 info39 rfl (by decide) (by omega) v485 y484 y487 _ _ _ (fun k_ => some k_ ≠ (.slice Ao10 t472.length co10 : Value).ownBlock ∧ some k_ ≠ (.slice Ao28 t479.length co28 : Value).ownBlock ∧ some k_ ≠ (v497 : Value).ownBlock) (fun k_ => ((fun k_ => some k_ ≠ (.slice Ao10 t472.length co10 : Value).ownBlock ∧ some k_ ≠ (.slice Ao28 t479.length co28 : Value).ownBlock ∧ some k_ ≠ (v497 : Value).ownBlock)) k_ ∧ some k_ ≠ (v485 : Value).ownBlock) rfl rfl ?aO ?aR (fun _ hk => hk) ?aF ?aB ?aS ?aL ?_
              (case aR => exact (by skip; exact Kd.V_F (Kd.V_mono (ok' := (fun k_ => ((fun k_ => some k_ ≠ (.slice Ao10 t472.length co10 : Value).ownBlock ∧ some k_ ≠ (.slice Ao28 t479.length co28 : Value).ownBlock ∧ some k_ ≠ (v497 : Value).ownBlock)) k_ ∧ some k_ ≠ (v485 : Value).ownBlock)) (HO491.out) (fun k_ hk => ⟨⟨hk.1.1.1, ⟨hk.1.1.2, hk.1.2⟩⟩, hk.2⟩))))
              (case aB => exact (by repeat (first | (with_reducible first | exact HB.out | apply zU | apply zV | apply zW) | exact HB.out)))
              (case aF => exact (fun k_ hk => ⟨Kd.fresh' (Kd.R_lt (by (with_reducible repeat (first | apply zR | apply zS | apply zT)); exact HO_4.out)) k_ hk, Kd.fresh' (Kd.N_lt (by (with_reducible repeat (first | apply Kd.N_alloc | apply Kd.N_drewN | apply Kd.N_drew)); exact HO_7.out)) k_ hk, Kd.fresh' (Kd.N_lt (by (with_reducible repeat (first | apply Kd.N_alloc | apply Kd.N_drewN | apply Kd.N_drew)); exact HO498.out)) k_ hk⟩))
              (case aO => exact (by (with_reducible repeat (first | apply Kd.N_alloc | apply Kd.N_drewN | apply Kd.N_drew)); exact Kd.N_mono HO486.out (fun _ hk => ⟨hk.2.1, ⟨hk.2.2.1, hk.2.2.2⟩⟩)))
              (case aS => exact (zI (by repeat (first | (with_reducible first | exact HB.out | apply zU | apply zV | apply zW) | exact HB.out))))
              (case aL => have := LMc19.out; omega)
              intro v493 w36 ho hb hg hat
              rw [← Ny492.out] at ho
              have n0_ := zM (Kd.N_afterv (ok := (fun k_ => some k_ ≠ (.slice Ao10 t472.length co10 : Value).ownBlock ∧ some k_ ≠ (.slice Ao28 t479.length co28 : Value).ownBlock ∧ some k_ ≠ (v497 : Value).ownBlock)) (by (with_reducible repeat (first | apply Kd.N_alloc | apply Kd.N_drewN | apply Kd.N_drew)); exact Kd.N_mono HO_3.out (fun _ hk => ⟨⟨hk.1.1.1, ⟨hk.1.1.2, hk.1.2⟩⟩, hk.2⟩)) hg hat)
              have n1_ := zM (Kd.R_over' (by (with_reducible repeat (first | apply zR | apply zS | apply zT)); exact HO_4.out) (Kd.N_typed (by (with_reducible repeat (first | apply Kd.N_alloc | apply Kd.N_drewN | apply Kd.N_drew)); exact HO486.out)) (by decide) hg)
              have n2_ := zM (Kd.N_afterv (ok := (fun k_ => some k_ ≠ (.slice Ao10 t472.length co10 : Value).ownBlock ∧ some k_ ≠ (v497 : Value).ownBlock)) (by (with_reducible repeat (first | apply Kd.N_alloc | apply Kd.N_drewN | apply Kd.N_drew)); exact HO_7.out) hg hat)
              have n3_ := zM (Kd.V_afterv (ok := (fun k_ => some k_ ≠ (.slice Ao10 t472.length co10 : Value).ownBlock ∧ some k_ ≠ (.slice Ao28 t479.length co28 : Value).ownBlock ∧ some k_ ≠ (v497 : Value).ownBlock)) (by (with_reducible repeat (first | apply Kd.V_alloc | apply Kd.V_drewN | apply Kd.V_drew)); exact Kd.V_mono HO491.out (fun _ hk => ⟨⟨hk.1.1.1, ⟨hk.1.1.2, hk.1.2⟩⟩, hk.2⟩)) hg hat)
              have n4_ := zM (Kd.V_afterv (ok := (fun k_ => some k_ ≠ (.slice Ao10 t472.length co10 : Value).ownBlock ∧ some k_ ≠ (.slice Ao28 t479.length co28 : Value).ownBlock ∧ some k_ ≠ (v497 : Value).ownBlock)) (by (with_reducible repeat (first | apply Kd.V_alloc | apply Kd.V_drewN | apply Kd.V_drew)); exact Kd.V_mono HO503.out (fun _ hk => ⟨⟨hk.1.1.1, ⟨hk.1.1.2, hk.1.2⟩⟩, hk.2⟩)) hg hat)
              have n5_ := zM (Kd.N_afterv (ok := (fun k_ => some k_ ≠ (.slice Ao9 t471.length co9 : Value).ownBlock ∧ some k_ ≠ (.slice Ao10 t472.length co10 : Value).ownBlock ∧ some k_ ≠ (.slice Ao28 t479.length co28 : Value).ownBlock)) (by (with_reducible repeat (first | apply Kd.N_alloc | apply Kd.N_drewN | apply Kd.N_drew)); exact HO498.out) hg hat)
              have n6_ := zM (hb)
              have n7_ := zM (ho)
              clear HO_3
              clear HO_4
              clear HO_7
              clear HO491
              clear HO503
              clear HO498
              clear HB
              clear HO486
              have HO_3 := n0_
              have HO_4 := n1_
              have HO_7 := n2_
              have HO491 := n3_
              have HO503 := n4_
              have HO498 := n5_
              have HB := n6_
              have HO494 := n7_
              clear n0_ n1_ n2_ n3_ n4_ n5_ n6_ n7_
              clear ho hb hg hat
              obtain ⟨Ao37, co37, eo37⟩ := Kd.N_slice HO494.out
              (first | subst eo37 | (injection eo37 with f1_ f2_ f3_; have f4_ := f1_.symm; have f5_ := f3_.symm; clear f1_ f2_ f3_; subst f4_; subst f5_))
              refine hK.out _ _ trivial (fun hHeld => ?_)
              clear hK K
              refine norm_ (a' := ?_) ?_ ?_
              rotate_left
              ·
               show Act.put _ (some 50) _ = _
               simp only [Act.put, zA, zB, zC, i64_w, i32_w]
               rfl
              refine one_ (i := 7) (N := some 52) #[tt, tt, tt, tt, tt, tt, tt, tt, tt, tt, tt, tt, ff, tt, ff, ff, ff, ff, ff, ff, ff, ff, ff, ff, ff, ff, ff] rfl rfl (one_of HT_.out (by kernel_rfl)) (by decide) (fun K hK => ?_)
              refine goes_ Try.func20 (by kernel_rfl) rfl #[.slice Ao37 y492.length co37, .slice Ao10 t472.length co10] (by rfl) rfl rfl (by (try simp only [List.map_toArray, List.map_cons, List.map_nil]); first | done | rfl | (simp only [List.length_drop, List.length_take]; rfl)) ?_
              with_reducible refine (impl_RowMany.calls k1 _ _ y492 _ _ t472 t495 _ ?side1 ?side2 ?side3 ?side4 A20.out).mono ?_
              (case side1 => repeat (first | exact (Kd.N_reads' HO494.out).2.2 | (with_reducible refine zQ ?_ _) | (with_reducible refine zO ?_ _) | (with_reducible refine zP ?_)))
              (case side2 => exact (Kd.N_reads' HO494.out).2.1)
              (case side3 => repeat (first | exact (Kd.R_reads' HO_4.out).2.2 | (with_reducible refine zQ ?_ _) | (with_reducible refine zO ?_ _) | (with_reducible refine zP ?_)))
              (case side4 => exact (Kd.R_reads' HO_4.out).2.1)
              rintro e w' ⟨rfl, ⟨nd, rfl⟩⟩
              refine ⟨_, rfl, ?_⟩
              refine hK.out _ _ trivial (fun hHeld => ?_)
              clear hK K
              refine norm_ (a' := ?_) ?_ ?_
              rotate_left
              ·
               show Act.put _ (some 52) _ = _
               simp only [Act.put, zA, zB, zC, i64_w, i32_w]
               rfl
              exact norm_ (by simp only [putAll, Act.put, zA, zB, zC]) (hCont (v485, .slice Ao37 y492.length co37, v497) _ ⟨(by (with_reducible repeat (first | apply Kd.V_alloc | apply Kd.V_drewN | apply Kd.V_drew)); exact Kd.V_mono HO491.out (fun _ hk => ⟨hk.2, ⟨hk.1.2.2, ⟨hk.1.1, hk.1.2.1⟩⟩⟩)), (by (with_reducible repeat (first | apply Kd.N_alloc | apply Kd.N_drewN | apply Kd.N_drew)); exact Kd.N_mono HO494.out (fun _ hk => ⟨hk.2.2, ⟨hk.1, hk.2.1⟩⟩)), (by (with_reducible repeat (first | apply Kd.N_alloc | apply Kd.N_drewN | apply Kd.N_drew)); exact Kd.N_mono HO498.out (fun _ hk => ⟨hk.2, ⟨hk.1.1, ⟨hk.1.2.1, hk.1.2.2⟩⟩⟩)), (by (with_reducible repeat (first | apply Kd.V_alloc | apply Kd.V_drewN | apply Kd.V_drew)); exact Kd.V_mono HO503.out (fun _ hk => ⟨hk.2, ⟨hk.1.2.2, ⟨hk.1.1, hk.1.2.1⟩⟩⟩)), (by (with_reducible repeat (first | apply Kd.N_alloc | apply Kd.N_drewN | apply Kd.N_drew)); exact Kd.N_mono HO_3.out (fun _ hk => ⟨hk.2, ⟨hk.1.2.2, ⟨hk.1.1, hk.1.2.1⟩⟩⟩)), (by (with_reducible repeat (first | apply zR | apply zS | apply zT)); exact HO_4.out), (by (with_reducible repeat (first | apply Kd.N_alloc | apply Kd.N_drewN | apply Kd.N_drew)); exact Kd.N_mono HO_7.out (fun _ hk => ⟨hk.2, ⟨hk.1.2, hk.1.1⟩⟩)), (by repeat (first | (with_reducible first | exact HB.out | apply zU | apply zV | apply zW) | exact HB.out))⟩)
            rintro ⟨v485, v493, v497⟩ w38 ⟨h0_, h1_, h2_, h3_, h4_, h5_, h6_, h7_⟩
            have n0_ : Aside0 (Kd.V (Kd.slice 83 k83) 39 w38 w.heap.size (fun k_ => some k_ ≠ (v493 : Value).ownBlock ∧ some k_ ≠ (v497 : Value).ownBlock ∧ some k_ ≠ (.slice Ao10 t472.length co10 : Value).ownBlock ∧ some k_ ≠ (.slice Ao28 t479.length co28 : Value).ownBlock) (.slice Ao9 y487.length co9) y487) := ⟨h0_⟩
            have n1_ : Aside0 (Kd.N (Kd.slice 83 k83) 39 w38 w.heap.size (fun k_ => some k_ ≠ (v497 : Value).ownBlock ∧ some k_ ≠ (.slice Ao10 t472.length co10 : Value).ownBlock ∧ some k_ ≠ (.slice Ao28 t479.length co28 : Value).ownBlock) v493 y492) := ⟨h1_⟩
            have n2_ : Aside0 (Kd.N (Kd.slice 83 k83) 39 w38 w.heap.size (fun k_ => some k_ ≠ (v493 : Value).ownBlock ∧ some k_ ≠ (.slice Ao9 t471.length co9 : Value).ownBlock ∧ some k_ ≠ (.slice Ao10 t472.length co10 : Value).ownBlock ∧ some k_ ≠ (.slice Ao28 t479.length co28 : Value).ownBlock) v497 y496) := ⟨h2_⟩
            have n3_ : Aside0 (Kd.V (Kd.slice 83 k83) 39 w38 w.heap.size (fun k_ => some k_ ≠ (v493 : Value).ownBlock ∧ some k_ ≠ (v497 : Value).ownBlock ∧ some k_ ≠ (.slice Ao10 t472.length co10 : Value).ownBlock ∧ some k_ ≠ (.slice Ao28 t479.length co28 : Value).ownBlock) (.slice A31 y499.length c31) y499) := ⟨h3_⟩
            have n4_ : Aside0 (Kd.N (Kd.slice 83 k83) 39 w38 w.heap.size (fun k_ => some k_ ≠ (v493 : Value).ownBlock ∧ some k_ ≠ (v497 : Value).ownBlock ∧ some k_ ≠ (.slice Ao10 t472.length co10 : Value).ownBlock ∧ some k_ ≠ (.slice Ao28 t479.length co28 : Value).ownBlock) (.slice Ao9 t471.length co9) t471) := ⟨h4_⟩
            have n5_ : Aside0 (Kd.R k83 83 w38 w.heap.size (fun _ => True) (.slice Ao10 t472.length co10) t472) := ⟨h5_⟩
            have n6_ : Aside0 (Kd.N (Kd.slice 83 k83) 39 w38 w.heap.size (fun k_ => some k_ ≠ (v493 : Value).ownBlock ∧ some k_ ≠ (v497 : Value).ownBlock ∧ some k_ ≠ (.slice Ao10 t472.length co10 : Value).ownBlock) (.slice Ao28 t479.length co28) t479) := ⟨h6_⟩
            have n7_ : Aside0 (Below w.heap.size w w38) := ⟨h7_⟩
            clear HO_3
            clear HO_4
            clear HO_7
            clear HB
            clear h0_ h1_ h2_ h3_ h4_ h5_ h6_ h7_
            have HO491 := n0_
            have HO494 := n1_
            have HO498 := n2_
            have HO503 := n3_
            have HO_3 := n4_
            have HO_4 := n5_
            have HO_7 := n6_
            have HB := n7_
            clear n0_ n1_ n2_ n3_ n4_ n5_ n6_ n7_
            have hHeld := trivial
            refine norm_ (a' := ?_) ?_ ?_
            rotate_left
            ·
             simp only [putAll, Act.put, zA, zB, zC]
             rfl
            refine one_ (i := 12) (N := some 57) #[tt, tt, tt, tt, tt, tt, tt, tt, tt, tt, tt, tt, tt, tt, ff, ff, ff, ff, ff, ff, ff, ff, ff, ff, ff, ff, ff] rfl rfl (one_of HT_.out (by kernel_rfl)) (by decide) (fun K hK => ?_)
            refine Kd.N_append_rows_step (Kd.slice 83 k83) (w0 := w) w.heap.size (by rfl) (.tmp 53) (.tmp 56) 38 39 (.slice none 0 0) 24 rfl Try.underlying38 info39 rfl (by decide) (by omega) v497 y496 y499 _ _ _ (fun k_ => some k_ ≠ (.slice Ao10 t472.length co10 : Value).ownBlock ∧ some k_ ≠ (.slice Ao28 t479.length co28 : Value).ownBlock ∧ some k_ ≠ (v493 : Value).ownBlock) (fun k_ => ((fun k_ => some k_ ≠ (.slice Ao10 t472.length co10 : Value).ownBlock ∧ some k_ ≠ (.slice Ao28 t479.length co28 : Value).ownBlock ∧ some k_ ≠ (v493 : Value).ownBlock)) k_ ∧ some k_ ≠ (v497 : Value).ownBlock) rfl rfl ?aO ?aR (fun _ hk => hk) ?aF ?aB ?aS ?aL ?_
            (case aR => exact (by skip; exact Kd.V_F (Kd.V_mono (ok' := (fun k_ => ((fun k_ => some k_ ≠ (.slice Ao10 t472.length co10 : Value).ownBlock ∧ some k_ ≠ (.slice Ao28 t479.length co28 : Value).ownBlock ∧ some k_ ≠ (v493 : Value).ownBlock)) k_ ∧ some k_ ≠ (v497 : Value).ownBlock)) (HO503.out) (fun k_ hk => ⟨⟨hk.2.2.1, ⟨hk.2.2.2, hk.1⟩⟩, hk.2.1⟩))))
            (case aB => exact (by repeat (first | (with_reducible first | exact HB.out | apply zU | apply zV | apply zW) | exact HB.out)))
            (case aF => exact (fun k_ hk => ⟨Kd.fresh' (Kd.R_lt (by (with_reducible repeat (first | apply zR | apply zS | apply zT)); exact HO_4.out)) k_ hk, Kd.fresh' (Kd.N_lt (by (with_reducible repeat (first | apply Kd.N_alloc | apply Kd.N_drewN | apply Kd.N_drew)); exact HO_7.out)) k_ hk, Kd.fresh' (Kd.N_lt (by (with_reducible repeat (first | apply Kd.N_alloc | apply Kd.N_drewN | apply Kd.N_drew)); exact HO494.out)) k_ hk⟩))
            (case aO => exact (by (with_reducible repeat (first | apply Kd.N_alloc | apply Kd.N_drewN | apply Kd.N_drew)); exact Kd.N_mono HO498.out (fun _ hk => ⟨hk.2.2.1, ⟨hk.2.2.2, hk.1⟩⟩)))
            (case aS => exact (zI (by repeat (first | (with_reducible first | exact HB.out | apply zU | apply zV | apply zW) | exact HB.out))))
            (case aL => have := LMc23.out; omega)
            intro v505 w39 ho hb hg hat
            rw [← Ny504.out] at ho
            have n0_ := zM (Kd.N_afterv (ok := (fun k_ => some k_ ≠ (.slice Ao10 t472.length co10 : Value).ownBlock ∧ some k_ ≠ (.slice Ao28 t479.length co28 : Value).ownBlock ∧ some k_ ≠ (v493 : Value).ownBlock)) (by (with_reducible repeat (first | apply Kd.N_alloc | apply Kd.N_drewN | apply Kd.N_drew)); exact Kd.N_mono HO_3.out (fun _ hk => ⟨⟨hk.2.2.1, ⟨hk.2.2.2, hk.1⟩⟩, hk.2.1⟩)) hg hat)
            have n1_ := zM (Kd.R_over' (by (with_reducible repeat (first | apply zR | apply zS | apply zT)); exact HO_4.out) (Kd.N_typed (by (with_reducible repeat (first | apply Kd.N_alloc | apply Kd.N_drewN | apply Kd.N_drew)); exact HO498.out)) (by decide) hg)
            have n2_ := zM (Kd.N_afterv (ok := (fun k_ => some k_ ≠ (.slice Ao10 t472.length co10 : Value).ownBlock ∧ some k_ ≠ (v493 : Value).ownBlock)) (by (with_reducible repeat (first | apply Kd.N_alloc | apply Kd.N_drewN | apply Kd.N_drew)); exact Kd.N_mono HO_7.out (fun _ hk => ⟨⟨hk.2.2, hk.1⟩, hk.2.1⟩)) hg hat)
            have n3_ := zM (Kd.V_afterv (ok := (fun k_ => some k_ ≠ (.slice Ao10 t472.length co10 : Value).ownBlock ∧ some k_ ≠ (.slice Ao28 t479.length co28 : Value).ownBlock ∧ some k_ ≠ (v493 : Value).ownBlock)) (by (with_reducible repeat (first | apply Kd.V_alloc | apply Kd.V_drewN | apply Kd.V_drew)); exact Kd.V_mono HO491.out (fun _ hk => ⟨⟨hk.2.2.1, ⟨hk.2.2.2, hk.1⟩⟩, hk.2.1⟩)) hg hat)
            have n4_ := zM (Kd.V_afterv (ok := (fun k_ => some k_ ≠ (.slice Ao10 t472.length co10 : Value).ownBlock ∧ some k_ ≠ (.slice Ao28 t479.length co28 : Value).ownBlock ∧ some k_ ≠ (v493 : Value).ownBlock)) (by (with_reducible repeat (first | apply Kd.V_alloc | apply Kd.V_drewN | apply Kd.V_drew)); exact Kd.V_mono HO503.out (fun _ hk => ⟨⟨hk.2.2.1, ⟨hk.2.2.2, hk.1⟩⟩, hk.2.1⟩)) hg hat)
            have n5_ := zM (Kd.N_afterv (ok := (fun k_ => some k_ ≠ (.slice Ao10 t472.length co10 : Value).ownBlock ∧ some k_ ≠ (.slice Ao28 t479.length co28 : Value).ownBlock)) (by (with_reducible repeat (first | apply Kd.N_alloc | apply Kd.N_drewN | apply Kd.N_drew)); exact Kd.N_mono HO494.out (fun _ hk => ⟨⟨hk.2.1, hk.2.2⟩, hk.1⟩)) hg hat)
            have n6_ := zM (hb)
            have n7_ := zM (ho)
            clear HO_3
            clear HO_4
            clear HO_7
            clear HO491
            clear HO503
            clear HO494
            clear HB
            clear HO498
            have HO_3 := n0_
            have HO_4 := n1_
            have HO_7 := n2_
            have HO491 := n3_
            have HO503 := n4_
            have HO494 := n5_
            have HB := n6_
            have HO506 := n7_
            clear n0_ n1_ n2_ n3_ n4_ n5_ n6_ n7_
            clear ho hb hg hat
            obtain ⟨Ao40, co40, eo40⟩ := Kd.N_slice HO506.out
            (first | subst eo40 | (injection eo40 with f1_ f2_ f3_; have f4_ := f1_.symm; have f5_ := f3_.symm; clear f1_ f2_ f3_; subst f4_; subst f5_))
            refine hK.out _ _ trivial (fun hHeld => ?_)
            clear hK K
            refine norm_ (a' := ?_) ?_ ?_
            rotate_left
            ·
             show Act.put _ (some 57) _ = _
             simp only [Act.put, zA, zB, zC, i64_w, i32_w]
             rfl
            refine one_ (i := 14) (N := some 59) #[tt, tt, tt, tt, tt, tt, tt, tt, tt, tt, tt, tt, tt, tt, tt, ff, ff, ff, ff, ff, ff, ff, ff, ff, ff, ff, ff] rfl rfl (one_of HT_.out (by kernel_rfl)) (by decide) (fun K hK => ?_)
            refine goes_ Try.func20 (by kernel_rfl) rfl #[.slice Ao40 y504.length co40, .slice Ao10 t472.length co10] (by rfl) rfl rfl (by (try simp only [List.map_toArray, List.map_cons, List.map_nil]); first | done | rfl | (simp only [List.length_drop, List.length_take]; rfl)) ?_
            with_reducible refine (impl_RowMany.calls k1 _ _ y504 _ _ t472 t507 _ ?side1 ?side2 ?side3 ?side4 A24.out).mono ?_
            (case side1 => repeat (first | exact (Kd.N_reads' HO506.out).2.2 | (with_reducible refine zQ ?_ _) | (with_reducible refine zO ?_ _) | (with_reducible refine zP ?_)))
            (case side2 => exact (Kd.N_reads' HO506.out).2.1)
            (case side3 => repeat (first | exact (Kd.R_reads' HO_4.out).2.2 | (with_reducible refine zQ ?_ _) | (with_reducible refine zO ?_ _) | (with_reducible refine zP ?_)))
            (case side4 => exact (Kd.R_reads' HO_4.out).2.1)
            rintro e w' ⟨rfl, ⟨nd, rfl⟩⟩
            refine ⟨_, rfl, ?_⟩
            refine hK.out _ _ trivial (fun hHeld => ?_)
            clear hK K
            refine norm_ (a' := ?_) ?_ ?_
            rotate_left
            ·
             show Act.put _ (some 59) _ = _
             simp only [Act.put, zA, zB, zC, i64_w, i32_w]
             rfl
            refine pure_ (i := 15) (N := some 60) (v := ?_) (a' := ?_) #[tt, tt, tt, tt, tt, tt, tt, tt, tt, tt, tt, tt, tt, tt, tt, tt, ff, ff, ff, ff, ff, ff, ff, ff, ff, ff, ff] rfl rfl (any_of HT_.out (by kernel_rfl)) (fun _ _ _ h => h) (Or.inl ⟨by rfl, ?_⟩) ?_ ?_
            rotate_left
            ·
             intro w'
             go_simp
             with_reducible rfl
            rotate_left
            ·
             simp only [Act.put, zA, zB, zC, i64_w, i32_w]
             rfl
            refine pure_ (i := 16) (N := some 61) (v := ?_) (a' := ?_) #[tt, tt, tt, tt, tt, tt, tt, tt, tt, tt, tt, tt, tt, tt, tt, tt, tt, ff, ff, ff, ff, ff, ff, ff, ff, ff, ff] rfl rfl (any_of HT_.out (by kernel_rfl)) (fun _ _ _ h => h) (Or.inl ⟨by rfl, ?_⟩) ?_ ?_
            rotate_left
            ·
             intro w'
             go_simp
             with_reducible rfl
            rotate_left
            ·
             simp only [Act.put, zA, zB, zC, i64_w, i32_w]
             rfl
            refine pure_ (i := 17) (N := some 62) (v := ?_) (a' := ?_) #[tt, tt, tt, tt, tt, tt, tt, tt, tt, tt, tt, tt, tt, tt, tt, tt, tt, tt, ff, ff, ff, ff, ff, ff, ff, ff, ff] rfl rfl (any_of HT_.out (by kernel_rfl)) (fun _ _ _ h => h) (Or.inl ⟨by rfl, ?_⟩) ?_ ?_
            rotate_left
            ·
             intro w'
             go_simp
             with_reducible rfl
            rotate_left
            ·
             simp only [Act.put, zA, zB, zC, i64_w, i32_w]
             rfl
            refine pure_ (i := 18) (N := some 63) (v := ?_) (a' := ?_) #[tt, tt, tt, tt, tt, tt, tt, tt, tt, tt, tt, tt, tt, tt, tt, tt, tt, tt, tt, ff, ff, ff, ff, ff, ff, ff, ff] rfl rfl (any_of HT_.out (by kernel_rfl)) (fun _ _ _ h => h) (Or.inl ⟨by rfl, ?_⟩) ?_ ?_
            rotate_left
            ·
             intro w'
             go_simp
             with_reducible rfl
            rotate_left
            ·
             simp only [Act.put, zA, zB, zC, i64_w, i32_w]
             rfl
            refine pure_ (i := 19) (N := some 64) (v := ?_) (a' := ?_) #[tt, tt, tt, tt, tt, tt, tt, tt, tt, tt, tt, tt, tt, tt, tt, tt, tt, tt, tt, tt, ff, ff, ff, ff, ff, ff, ff] rfl rfl (any_of HT_.out (by kernel_rfl)) (fun _ _ _ h => h) (Or.inl ⟨by rfl, ?_⟩) ?_ ?_
            rotate_left
            ·
             intro w'
             go_simp
             with_reducible rfl
            rotate_left
            ·
             simp only [Act.put, zA, zB, zC, i64_w, i32_w]
             rfl
            refine pure_ (i := 20) (N := some 65) (v := ?_) (a' := ?_) #[tt, tt, tt, tt, tt, tt, tt, tt, tt, tt, tt, tt, tt, tt, tt, tt, tt, tt, tt, tt, tt, ff, ff, ff, ff, ff, ff] rfl rfl (any_of HT_.out (by kernel_rfl)) (fun _ _ _ h => h) (Or.inl ⟨by rfl, ?_⟩) ?_ ?_
            rotate_left
            ·
             intro w'
             go_simp
             with_reducible rfl
            rotate_left
            ·
             simp only [Act.put, zA, zB, zC, i64_w, i32_w]
             rfl
            refine pure_ (i := 21) (N := some 66) (v := ?_) (a' := ?_) #[tt, tt, tt, tt, tt, tt, tt, tt, tt, tt, tt, tt, tt, tt, tt, tt, tt, tt, tt, tt, tt, tt, ff, ff, ff, ff, ff] rfl rfl (any_of HT_.out (by kernel_rfl)) (fun _ _ _ h => h) (Or.inl ⟨by rfl, ?_⟩) ?_ ?_
            rotate_left
            ·
             intro w'
             go_simp
             with_reducible rfl
            rotate_left
            ·
             simp only [Act.put, zA, zB, zC, i64_w, i32_w]
             rfl
            refine pure_ (i := 22) (N := some 67) (v := ?_) (a' := ?_) #[tt, tt, tt, tt, tt, tt, tt, tt, tt, tt, tt, tt, tt, tt, tt, tt, tt, tt, tt, tt, tt, tt, tt, ff, ff, ff, ff] rfl rfl (any_of HT_.out (by kernel_rfl)) (fun _ _ _ h => h) (Or.inl ⟨by rfl, ?_⟩) ?_ ?_
            rotate_left
            ·
             intro w'
             go_simp
             with_reducible rfl
            rotate_left
            ·
             simp only [Act.put, zA, zB, zC, i64_w, i32_w]
             rfl
            refine pure_ (i := 23) (N := some 68) (v := ?_) (a' := ?_) #[tt, tt, tt, tt, tt, tt, tt, tt, tt, tt, tt, tt, tt, tt, tt, tt, tt, tt, tt, tt, tt, tt, tt, tt, ff, ff, ff] rfl rfl (any_of HT_.out (by kernel_rfl)) (fun _ _ _ h => h) (Or.inl ⟨by rfl, ?_⟩) ?_ ?_
            rotate_left
            ·
             intro w'
             go_simp
             with_reducible rfl
            rotate_left
            ·
             simp only [Act.put, zA, zB, zC, i64_w, i32_w]
             rfl
            refine one_ (i := 24) (N := some 69) #[tt, tt, tt, tt, tt, tt, tt, tt, tt, tt, tt, tt, tt, tt, tt, tt, tt, tt, tt, tt, tt, tt, tt, tt, tt, ff, ff] rfl rfl (one_of HT_.out (by kernel_rfl)) (by decide) (fun K hK => ?_)
            refine goes_ Try.func23 (by kernel_rfl) rfl #[] (by rfl) rfl rfl (by (try simp only [List.map_toArray, List.map_cons, List.map_nil]); first | done | rfl | (simp only [List.length_drop, List.length_take]; rfl)) ?_
            with_reducible refine (laws_alive.calls  t508 _ A27.out).mono ?_
            rintro e w41 ⟨rfl, hb⟩
            refine ⟨_, rfl, ?_⟩
            have n0_ := zM (Kd.N_below (by (with_reducible repeat (first | apply Kd.N_alloc | apply Kd.N_drewN | apply Kd.N_drew)); exact HO_3.out) hb)
            have n1_ := zM (Kd.R_below (by (with_reducible repeat (first | apply zR | apply zS | apply zT)); exact HO_4.out) hb)
            have n2_ := zM (Kd.N_below (by (with_reducible repeat (first | apply Kd.N_alloc | apply Kd.N_drewN | apply Kd.N_drew)); exact HO_7.out) hb)
            have n3_ := zM (Kd.V_below (by (with_reducible repeat (first | apply Kd.V_alloc | apply Kd.V_drewN | apply Kd.V_drew)); exact HO491.out) hb)
            have n4_ := zM (Kd.V_below (by (with_reducible repeat (first | apply Kd.V_alloc | apply Kd.V_drewN | apply Kd.V_drew)); exact HO503.out) hb)
            have n5_ := zM (Kd.N_below (by (with_reducible repeat (first | apply Kd.N_alloc | apply Kd.N_drewN | apply Kd.N_drew)); exact HO494.out) hb)
            have n6_ := zM (Kd.N_below (by (with_reducible repeat (first | apply Kd.N_alloc | apply Kd.N_drewN | apply Kd.N_drew)); exact HO506.out) hb)
            have n7_ := zM (zG (by repeat (first | (with_reducible first | exact HB.out | apply zU | apply zV | apply zW) | exact HB.out)) hb)
            clear HO_3
            clear HO_4
            clear HO_7
            clear HO491
            clear HO503
            clear HO494
            clear HO506
            clear HB
            have HO_3 := n0_
            have HO_4 := n1_
            have HO_7 := n2_
            have HO491 := n3_
            have HO503 := n4_
            have HO494 := n5_
            have HO506 := n6_
            have HB := n7_
            clear n0_ n1_ n2_ n3_ n4_ n5_ n6_ n7_
            (try clear hb)
            (try clear hb2)
            (try clear hk)
            (try clear hi)
            refine hK.out _ _ trivial (fun hHeld => ?_)
            clear hK K
            refine norm_ (a' := ?_) ?_ ?_
            rotate_left
            ·
             show Act.put _ (some 69) _ = _
             simp only [Act.put, zA, zB, zC, i64_w, i32_w]
             rfl
            refine pure_ (i := 25) (N := some 70) (v := ?_) (a' := ?_) #[tt, tt, tt, tt, tt, tt, tt, tt, tt, tt, tt, tt, tt, tt, tt, tt, tt, tt, tt, tt, tt, tt, tt, tt, tt, tt, ff] rfl rfl (any_of HT_.out (by kernel_rfl)) (fun _ _ _ h => h) (Or.inl ⟨by rfl, ?_⟩) ?_ ?_
            rotate_left
            ·
             intro w'
             go_simp
             with_reducible rfl
            rotate_left
            ·
             simp only [Act.put, zA, zB, zC, i64_w, i32_w]
             rfl
            refine pure_ (i := 26) (N := some 2) (v := ?_) (a' := ?_) #[tt, tt, tt, tt, tt, tt, tt, tt, tt, tt, tt, tt, tt, tt, tt, tt, tt, tt, tt, tt, tt, tt, tt, tt, tt, tt, tt] rfl rfl (any_of HT_.out (by kernel_rfl)) (fun _ _ _ h => h) (Or.inl ⟨by rfl, ?_⟩) ?_ ?_
            rotate_left
            ·
             intro w'
             go_simp
             with_reducible rfl
            rotate_left
            ·
             simp only [Act.put, zA, zB, zC, i64_w, i32_w]
             rfl
            refine done_ (done_of HT_.out (by kernel_rfl)) ?_
            try go_wp2
            go_ret
            exact ⟨by first | rfl | (simp [errW_none, errW_some] <;> rfl) | (simp only [← hji16]; first | rfl | (simp [errW_none, errW_some] <;> rfl)) | (simp [*, errW_none, errW_some] <;> rfl), by repeat (first | (with_reducible first | exact HB.out | apply zU | apply zV | apply zW) | exact HB.out)⟩
           ·
            rw [if_neg c26] at H
            have c26b0 : (x8_1 == (t471.length : Int)) = false := beq_eq_false_iff_ne.mpr c26
            have c26b1 : (x8_1 != (t471.length : Int)) = true := bne_iff_ne.mpr c26
            obtain rfl := Option.some.inj H
            obtain ⟨Ao42, co42, eo42⟩ := Kd.N_slice HO_7.out
            subst eo42
            try go_wp2
            have n0_ := zM (Kd.N_drew HO_3.out)
            have n1_ := zM (zT HO_4.out)
            have n2_ := zM (Kd.N_drew HO_7.out)
            have n3_ := zM (zW HB.out)
            clear HO_3
            clear HO_4
            clear HO_7
            clear HB
            have HO_3 := n0_
            have HO_4 := n1_
            have HO_7 := n2_
            have HB := n3_
            clear n0_ n1_ n2_ n3_
            have q44 : ((ji16) : Int) ≤ ((t471.length : Int) : Int) := zL (by assumption)
            obtain ⟨i044, hi044, _, hsz44, _⟩ := info_parts info39
            have hroom44 : t471.length ≤ co9 := (Kd.N_reads' HO_3.out).2.1
            have hC44 : Kd.F (Kd.slice 83 k83) _ _ Ao9 t471.length t471 := (Kd.V_at (base := w.heap.size) (Kd.N_V HO_3.out)).2.2
            have hcut44 := cut_to (P := Try.prog) 38 39 .i64 Try.underlying38 hi044 Ao9 t471.length co9 (ji16) (zL (by assumption)) q44 hroom44
            have hr44 := Kd.F_take (m := ((ji16) : Int).toNat) hC44 (by omega)
            have hy44 : y487.length = ((ji16) : Int).toNat := (by rw [Ny487.out, List.length_take]; omega)
            rw [← Ny487.out] at hr44
            rw [← hy44] at hcut44
            have HO491 := zM (show Kd.V (Kd.slice 83 k83) 39 _ w.heap.size _ (.slice Ao9 y487.length co9) y487 from Kd.V_mk (by omega) hr44)
            have HC491 := zM (show y487.length ≤ co9 from by omega)
            clear hr44 hC44 hroom44 hi044 hsz44
            have KY44 := zM hy44
            clear hy44
            replace q44 := eq_true q44
            have q45 : ((ji16) : Int) ≤ ((t471.length : Int) : Int) := zL (by assumption)
            obtain ⟨i045, hi045, _, hsz45, _⟩ := info_parts info39
            have hroom45 : t471.length ≤ co9 := (Kd.N_reads' HO_3.out).2.1
            have hC45 : Kd.F (Kd.slice 83 k83) _ _ Ao9 t471.length t471 := (Kd.V_at (base := w.heap.size) (Kd.N_V HO_3.out)).2.2
            have q045 : (0 : Int) ≤ ((ji16) : Int) := zL (by assumption)
            have hcut45 := cut_from (P := Try.prog) 38 39 .i64 Try.underlying38 hi045 1 hsz45 Ao9 t471.length co9 (ji16) q045 q45
            have hr45 := Kd.F_cut (m := ((ji16) : Int).toNat) (c := co9) hC45 (by omega) hroom45
            obtain ⟨A45, hA45⟩ : ∃ A1, A1 = (if co9 = ((ji16) : Int).toNat then Ao9 else (Ao9 : Option Addr).map (·.add (((ji16) : Int).toNat * 1))) := ⟨_, rfl⟩
            obtain ⟨c45, hc45⟩ : ∃ c1, c1 = co9 - ((ji16) : Int).toNat := ⟨_, rfl⟩
            have hy45 : y499.length = t471.length - ((ji16) : Int).toNat := (by rw [Ny499.out, List.length_drop] <;> omega)
            rw [show (t471).drop ((ji16) : Int).toNat = y499 from Ny499.out.symm] at hr45
            replace hr45 : Kd.F (Kd.slice 83 k83) _ _ A45 y499.length y499 := (by rw [hA45]; exact hr45)
            rw [← hy45, ← hA45, ← hc45] at hcut45
            have HO503 := zM (show Kd.V (Kd.slice 83 k83) 39 _ w.heap.size _ (.slice A45 y499.length c45) y499 from Kd.V_mk (by rw [hy45, hc45]; exact Nat.sub_le_sub_right hroom45 _) hr45)
            have HC503 := zM (show y499.length ≤ c45 from by rw [hy45, hc45]; exact Nat.sub_le_sub_right hroom45 _)
            clear hr45 hC45 hroom45 hi045 hsz45 hc45
            have KY45 := zM hy45
            have KA45 := zM hA45
            clear hy45 hA45
            replace q45 := eq_true q45
            refine start_ (n := 27) (S := fun w' => True) (ds := []) #[ff, ff, ff, ff, ff, ff, ff, ff, ff, ff, ff, ff, ff, ff, ff, ff, ff, ff, ff, ff, ff, ff, ff, ff, ff, ff, ff] (by kernel_rfl) rfl rfl trivial (fun hHeld => ?_); refine with_tabW laws_FnRowMany.tab14 laws_FnRowMany.bits14 (fun HT_ HW_ => ?_)
            generalize wr.drew = w43 at HO_3 HO_4 HO_7 HB HO491 HO503 hHeld ⊢
            refine pure_ (i := 0) (N := some 45) (v := ?_) (a' := ?_) #[tt, ff, ff, ff, ff, ff, ff, ff, ff, ff, ff, ff, ff, ff, ff, ff, ff, ff, ff, ff, ff, ff, ff, ff, ff, ff, ff] rfl rfl (any_of HT_.out (by kernel_rfl)) (fun _ _ _ h => h) (Or.inl ⟨by rfl, ?_⟩) ?_ ?_
            rotate_left
            ·
             intro w'
             go_simp
             with_reducible rfl
            rotate_left
            ·
             simp only [Act.put, zA, zB, zC, i64_w, i32_w]
             rfl
            refine pure_ (i := 2) (N := some 47) (v := ?_) (a' := ?_) #[tt, ff, tt, ff, ff, ff, ff, ff, ff, ff, ff, ff, ff, ff, ff, ff, ff, ff, ff, ff, ff, ff, ff, ff, ff, ff, ff] rfl rfl (any_of HT_.out (by kernel_rfl)) (fun _ _ _ h => h) (Or.inl ⟨by rfl, ?_⟩) ?_ ?_
            rotate_left
            ·
             intro w'
             go_simp
             with_reducible rfl
            rotate_left
            ·
             simp only [Act.put, zA, zB, zC, i64_w, i32_w]
             rfl
            refine pure_ (i := 3) (N := some 48) (v := ?_) (a' := ?_) #[tt, ff, tt, tt, ff, ff, ff, ff, ff, ff, ff, ff, ff, ff, ff, ff, ff, ff, ff, ff, ff, ff, ff, ff, ff, ff, ff] rfl rfl (any_of HT_.out (by kernel_rfl)) (fun _ _ _ h => h) (Or.inl ⟨by rfl, ?_⟩) ?_ ?_
            rotate_left
            ·
             intro w'
             go_simp
             with_reducible rfl
            rotate_left
            ·
             simp only [Act.put, zA, zB, zC, i64_w, i32_w]
             rfl
            refine pure_ (i := 4) (N := some 49) (v := ?_) (a' := ?_) #[tt, ff, tt, tt, tt, ff, ff, ff, ff, ff, ff, ff, ff, ff, ff, ff, ff, ff, ff, ff, ff, ff, ff, ff, ff, ff, ff] rfl rfl (any_of HT_.out (by kernel_rfl)) (fun _ _ _ h => h) (Or.inl ⟨by rfl, ?_⟩) ?_ ?_
            rotate_left
            ·
             intro w'
             go_simp
             with_reducible rfl
            rotate_left
            ·
             simp only [Act.put, zA, zB, zC, i64_w, i32_w]
             rfl
            refine pure_ (i := 6) (N := some 51) (v := ?_) (a' := ?_) #[tt, ff, tt, tt, tt, ff, tt, ff, ff, ff, ff, ff, ff, ff, ff, ff, ff, ff, ff, ff, ff, ff, ff, ff, ff, ff, ff] rfl rfl (any_of HT_.out (by kernel_rfl)) (fun _ _ _ h => h) (Or.inl ⟨by rfl, ?_⟩) ?_ ?_
            rotate_left
            ·
             intro w'
             go_simp
             with_reducible rfl
            rotate_left
            ·
             simp only [Act.put, zA, zB, zC, i64_w, i32_w]
             rfl
            refine pure_ (i := 9) (N := some 54) (v := ?_) (a' := ?_) #[tt, ff, tt, tt, tt, ff, tt, ff, ff, tt, ff, ff, ff, ff, ff, ff, ff, ff, ff, ff, ff, ff, ff, ff, ff, ff, ff] rfl rfl (any_of HT_.out (by kernel_rfl)) (fun _ _ _ h => h) (Or.inl ⟨by rfl, ?_⟩) ?_ ?_
            rotate_left
            ·
             intro w'
             go_simp
             with_reducible rfl
            rotate_left
            ·
             simp only [Act.put, zA, zB, zC, i64_w, i32_w]
             rfl
            refine pure_ (i := 10) (N := some 55) (v := ?_) (a' := ?_) #[tt, ff, tt, tt, tt, ff, tt, ff, ff, tt, tt, ff, ff, ff, ff, ff, ff, ff, ff, ff, ff, ff, ff, ff, ff, ff, ff] rfl rfl (any_of HT_.out (by kernel_rfl)) (fun _ _ _ h => h) (Or.inl ⟨by rfl, ?_⟩) ?_ ?_
            rotate_left
            ·
             intro w'
             go_simp
             with_reducible rfl
            rotate_left
            ·
             simp only [Act.put, zA, zB, zC, i64_w, i32_w]
             rfl
            refine pure_ (i := 11) (N := some 56) (v := ?_) (a' := ?_) #[tt, ff, tt, tt, tt, ff, tt, ff, ff, tt, tt, tt, ff, ff, ff, ff, ff, ff, ff, ff, ff, ff, ff, ff, ff, ff, ff] rfl rfl (any_of HT_.out (by kernel_rfl)) (fun _ _ _ h => h) (Or.inl ⟨by rfl, ?_⟩) ?_ ?_
            rotate_left
            ·
             intro w'
             go_simp
             with_reducible rfl
            rotate_left
            ·
             simp only [Act.put, zA, zB, zC, i64_w, i32_w]
             rfl
            refine pure_ (i := 13) (N := some 58) (v := ?_) (a' := ?_) #[tt, ff, tt, tt, tt, ff, tt, ff, ff, tt, tt, tt, ff, tt, ff, ff, ff, ff, ff, ff, ff, ff, ff, ff, ff, ff, ff] rfl rfl (any_of HT_.out (by kernel_rfl)) (fun _ _ _ h => h) (Or.inl ⟨by rfl, ?_⟩) ?_ ?_
            rotate_left
            ·
             intro w'
             go_simp
             with_reducible rfl
            rotate_left
            ·
             simp only [Act.put, zA, zB, zC, i64_w, i32_w]
             rfl
            refine join_ (σ := Value × Value × Value) 14 #[tt, tt, tt, tt, tt, tt, tt, tt, tt, tt, tt, tt, ff, tt, ff, ff, ff, ff, ff, ff, ff, ff, ff, ff, ff, ff, ff] (fun s_ => [(46, s_.1), (50, s_.2.1), (52, .int .i64 t495), (53, s_.2.2)]) (fun s_ w' => (Kd.V (Kd.slice 83 k83) 39 w' w.heap.size (fun k_ => some k_ ≠ (s_.2.1 : Value).ownBlock ∧ some k_ ≠ (s_.2.2 : Value).ownBlock ∧ some k_ ≠ (.slice Ao10 t472.length co10 : Value).ownBlock ∧ some k_ ≠ (.slice Ao42 t479.length co42 : Value).ownBlock) (.slice Ao9 y487.length co9) y487) ∧ (Kd.N (Kd.slice 83 k83) 39 w' w.heap.size (fun k_ => some k_ ≠ (s_.2.2 : Value).ownBlock ∧ some k_ ≠ (.slice Ao10 t472.length co10 : Value).ownBlock ∧ some k_ ≠ (.slice Ao42 t479.length co42 : Value).ownBlock) s_.2.1 y492) ∧ (Kd.N (Kd.slice 83 k83) 39 w' w.heap.size (fun k_ => some k_ ≠ (s_.2.1 : Value).ownBlock ∧ some k_ ≠ (.slice Ao9 t471.length co9 : Value).ownBlock ∧ some k_ ≠ (.slice Ao10 t472.length co10 : Value).ownBlock ∧ some k_ ≠ (.slice Ao42 t479.length co42 : Value).ownBlock) s_.2.2 y496) ∧ (Kd.V (Kd.slice 83 k83) 39 w' w.heap.size (fun k_ => some k_ ≠ (s_.2.1 : Value).ownBlock ∧ some k_ ≠ (s_.2.2 : Value).ownBlock ∧ some k_ ≠ (.slice Ao10 t472.length co10 : Value).ownBlock ∧ some k_ ≠ (.slice Ao42 t479.length co42 : Value).ownBlock) (.slice A45 y499.length c45) y499) ∧ (Kd.N (Kd.slice 83 k83) 39 w' w.heap.size (fun k_ => some k_ ≠ (s_.2.1 : Value).ownBlock ∧ some k_ ≠ (s_.2.2 : Value).ownBlock ∧ some k_ ≠ (.slice Ao10 t472.length co10 : Value).ownBlock ∧ some k_ ≠ (.slice Ao42 t479.length co42 : Value).ownBlock) (.slice Ao9 t471.length co9) t471) ∧ (Kd.R k83 83 w' w.heap.size (fun _ => True) (.slice Ao10 t472.length co10) t472) ∧ (Kd.N (Kd.slice 83 k83) 39 w' w.heap.size (fun k_ => some k_ ≠ (s_.2.1 : Value).ownBlock ∧ some k_ ≠ (s_.2.2 : Value).ownBlock ∧ some k_ ≠ (.slice Ao10 t472.length co10 : Value).ownBlock) (.slice Ao42 t479.length co42) t479) ∧ (Below w.heap.size w w')) ?_ ?_
            rotate_left
            ·
             intro hCont
             refine two_ (i := 1) (j := 8) (Ni := some 46) (Nj := some 53) #[tt, tt, tt, tt, tt, ff, tt, ff, ff, tt, tt, tt, ff, tt, ff, ff, ff, ff, ff, ff, ff, ff, ff, ff, ff, ff, ff] #[tt, ff, tt, tt, tt, ff, tt, ff, tt, tt, tt, tt, ff, tt, ff, ff, ff, ff, ff, ff, ff, ff, ff, ff, ff, ff, ff] rfl rfl rfl rfl (two_of HT_.out (by kernel_rfl)) (by decide) (by decide) (fun K hK => ?_) (fun K hK => ?_)
             ·
              skip
              refine Kd.N_lit_step (Kd.slice 83 k83) _ 39 ?hg (N' := 46) ?hd (xs := ([] : List (List (S83)))) (inner := []) (ok := (fun k_ => some k_ ≠ (.slice Ao9 t471.length co9 : Value).ownBlock ∧ some k_ ≠ (.slice Ao10 t472.length co10 : Value).ownBlock ∧ some k_ ≠ (.slice Ao42 t479.length co42 : Value).ownBlock)) (okp := (fun k_ => some k_ ≠ (.slice Ao9 t471.length co9 : Value).ownBlock ∧ some k_ ≠ (.slice Ao10 t472.length co10 : Value).ownBlock ∧ some k_ ≠ (.slice Ao42 t479.length co42 : Value).ownBlock)) ?hr ?hp (fun _ hk => hk) ((show ∀ k_, w43.heap.size ≤ k_ → (fun k_ => some k_ ≠ (.slice Ao9 t471.length co9 : Value).ownBlock ∧ some k_ ≠ (.slice Ao10 t472.length co10 : Value).ownBlock ∧ some k_ ≠ (.slice Ao42 t479.length co42 : Value).ownBlock) k_ from fun k_ hk => ⟨Kd.fresh' (Kd.N_lt (by (with_reducible repeat (first | apply Kd.N_alloc | apply Kd.N_drewN | apply Kd.N_drew)); exact HO_3.out)) k_ hk, Kd.fresh' (Kd.R_lt (by (with_reducible repeat (first | apply zR | apply zS | apply zT)); exact HO_4.out)) k_ hk, Kd.fresh' (Kd.N_lt (by (with_reducible repeat (first | apply Kd.N_alloc | apply Kd.N_drewN | apply Kd.N_drew)); exact HO_7.out)) k_ hk⟩) _ (Nat.le_refl _)) (Below.refl _ _) (Nat.le_refl _) (by simp) ?_; (case hd => rfl); (case hg => rfl); (case hr => first | (go_simp; done) | (go_simp; rfl)); (case hp => exact (Reps.none _ _))
              intro v485 w46 ho47 hb hg_ hnew_
              clear hg_ hnew_
              (first | rw [← Ny484.out] at ho47 | (simp only [Int.reduceToNat] at ho47; rw [← Ny484.out] at ho47))
              have n0_ := zM (Kd.N_elder' (by (with_reducible repeat (first | apply Kd.N_alloc | apply Kd.N_drewN | apply Kd.N_drew)); exact HO_3.out) (Kd.N_base ho47) hb)
              have n1_ := zM (Kd.R_below (by (with_reducible repeat (first | apply zR | apply zS | apply zT)); exact HO_4.out) hb)
              have n2_ := zM (Kd.N_elder' (by (with_reducible repeat (first | apply Kd.N_alloc | apply Kd.N_drewN | apply Kd.N_drew)); exact HO_7.out) (Kd.N_base ho47) hb)
              have n3_ := zM (Kd.V_elder' (by (with_reducible repeat (first | apply Kd.V_alloc | apply Kd.V_drewN | apply Kd.V_drew)); exact HO491.out) (Kd.N_base ho47) hb)
              have n4_ := zM (Kd.V_elder' (by (with_reducible repeat (first | apply Kd.V_alloc | apply Kd.V_drewN | apply Kd.V_drew)); exact HO503.out) (Kd.N_base ho47) hb)
              have n5_ := zM (Kd.N_lower ho47 (zI (by repeat (first | (with_reducible first | exact HB.out | apply zU | apply zV | apply zW) | exact HB.out))))
              have n6_ := zM (zG (by repeat (first | (with_reducible first | exact HB.out | apply zU | apply zV | apply zW) | exact HB.out)) hb)
              clear HO_3
              clear HO_4
              clear HO_7
              clear HO491
              clear HO503
              clear HB
              have HO_3 := n0_
              have HO_4 := n1_
              have HO_7 := n2_
              have HO491 := n3_
              have HO503 := n4_
              have HO486 := n5_
              have HB := n6_
              clear n0_ n1_ n2_ n3_ n4_ n5_ n6_
              clear hb ho47
              refine hK.out _ _ trivial (fun hHeld => ?_)
              clear hK K
              refine norm_ (a' := ?_) ?_ ?_
              rotate_left
              ·
               show Act.put _ (some 46) _ = _
               simp only [Act.put, zA, zB, zC, i64_w, i32_w]
               rfl
              refine two_ (i := 5) (j := 8) (Ni := some 50) (Nj := some 53) #[tt, tt, tt, tt, tt, tt, tt, ff, ff, tt, tt, tt, ff, tt, ff, ff, ff, ff, ff, ff, ff, ff, ff, ff, ff, ff, ff] #[tt, tt, tt, tt, tt, ff, tt, ff, tt, tt, tt, tt, ff, tt, ff, ff, ff, ff, ff, ff, ff, ff, ff, ff, ff, ff, ff] rfl rfl rfl rfl (two_of HT_.out (by kernel_rfl)) (by decide) (by decide) (fun K hK => ?_) (fun K hK => ?_)
              ·
               skip
               refine Kd.N_append_rows_step (Kd.slice 83 k83) (w0 := w) w.heap.size (by rfl) (.tmp 46) (.tmp 49) 38 39 (.slice none 0 0) 24 rfl Try.underlying38 info39 rfl (by decide) (by omega) v485 y484 y487 _ _ _ (fun k_ => some k_ ≠ (.slice Ao10 t472.length co10 : Value).ownBlock ∧ some k_ ≠ (.slice Ao42 t479.length co42 : Value).ownBlock) (fun k_ => ((fun k_ => some k_ ≠ (.slice Ao10 t472.length co10 : Value).ownBlock ∧ some k_ ≠ (.slice Ao42 t479.length co42 : Value).ownBlock)) k_ ∧ some k_ ≠ (v485 : Value).ownBlock) rfl rfl ?aO ?aR (fun _ hk => hk) ?aF ?aB ?aS ?aL ?_
               (case aR => exact (by skip; exact Kd.V_F (Kd.V_mono (ok' := (fun k_ => ((fun k_ => some k_ ≠ (.slice Ao10 t472.length co10 : Value).ownBlock ∧ some k_ ≠ (.slice Ao42 t479.length co42 : Value).ownBlock)) k_ ∧ some k_ ≠ (v485 : Value).ownBlock)) (HO491.out) (fun k_ hk => ⟨⟨hk.1.1, hk.1.2⟩, hk.2⟩))))
               (case aB => exact (by repeat (first | (with_reducible first | exact HB.out | apply zU | apply zV | apply zW) | exact HB.out)))
               (case aF => exact (fun k_ hk => ⟨Kd.fresh' (Kd.R_lt (by (with_reducible repeat (first | apply zR | apply zS | apply zT)); exact HO_4.out)) k_ hk, Kd.fresh' (Kd.N_lt (by (with_reducible repeat (first | apply Kd.N_alloc | apply Kd.N_drewN | apply Kd.N_drew)); exact HO_7.out)) k_ hk⟩))
               (case aO => exact (by (with_reducible repeat (first | apply Kd.N_alloc | apply Kd.N_drewN | apply Kd.N_drew)); exact Kd.N_mono HO486.out (fun _ hk => ⟨hk.2.1, hk.2.2⟩)))
               (case aS => exact (zI (by repeat (first | (with_reducible first | exact HB.out | apply zU | apply zV | apply zW) | exact HB.out))))
               (case aL => have := LMc19.out; omega)
               intro v493 w48 ho hb hg hat
               rw [← Ny492.out] at ho
               have n0_ := zM (Kd.N_afterv (ok := (fun k_ => some k_ ≠ (.slice Ao10 t472.length co10 : Value).ownBlock ∧ some k_ ≠ (.slice Ao42 t479.length co42 : Value).ownBlock)) (by (with_reducible repeat (first | apply Kd.N_alloc | apply Kd.N_drewN | apply Kd.N_drew)); exact HO_3.out) hg hat)
               have n1_ := zM (Kd.R_over' (by (with_reducible repeat (first | apply zR | apply zS | apply zT)); exact HO_4.out) (Kd.N_typed (by (with_reducible repeat (first | apply Kd.N_alloc | apply Kd.N_drewN | apply Kd.N_drew)); exact HO486.out)) (by decide) hg)
               have n2_ := zM (Kd.N_afterv (ok := (fun k_ => some k_ ≠ (.slice Ao10 t472.length co10 : Value).ownBlock)) (by (with_reducible repeat (first | apply Kd.N_alloc | apply Kd.N_drewN | apply Kd.N_drew)); exact HO_7.out) hg hat)
               have n3_ := zM (Kd.V_afterv (ok := (fun k_ => some k_ ≠ (.slice Ao10 t472.length co10 : Value).ownBlock ∧ some k_ ≠ (.slice Ao42 t479.length co42 : Value).ownBlock)) (by (with_reducible repeat (first | apply Kd.V_alloc | apply Kd.V_drewN | apply Kd.V_drew)); exact HO491.out) hg hat)
               have n4_ := zM (Kd.V_afterv (ok := (fun k_ => some k_ ≠ (.slice Ao10 t472.length co10 : Value).ownBlock ∧ some k_ ≠ (.slice Ao42 t479.length co42 : Value).ownBlock)) (by (with_reducible repeat (first | apply Kd.V_alloc | apply Kd.V_drewN | apply Kd.V_drew)); exact HO503.out) hg hat)
               have n5_ := zM (hb)
               have n6_ := zM (ho)
               clear HO_3
               clear HO_4
               clear HO_7
               clear HO491
               clear HO503
               clear HB
               clear HO486
               have HO_3 := n0_
               have HO_4 := n1_
               have HO_7 := n2_
               have HO491 := n3_
               have HO503 := n4_
               have HB := n5_
               have HO494 := n6_
               clear n0_ n1_ n2_ n3_ n4_ n5_ n6_
               clear ho hb hg hat
               obtain ⟨Ao49, co49, eo49⟩ := Kd.N_slice HO494.out
               (first | subst eo49 | (injection eo49 with f1_ f2_ f3_; have f4_ := f1_.symm; have f5_ := f3_.symm; clear f1_ f2_ f3_; subst f4_; subst f5_))
               refine hK.out _ _ trivial (fun hHeld => ?_)
               clear hK K
               refine norm_ (a' := ?_) ?_ ?_
               rotate_left
               ·
                show Act.put _ (some 50) _ = _
                simp only [Act.put, zA, zB, zC, i64_w, i32_w]
                rfl
               refine two_ (i := 7) (j := 8) (Ni := some 52) (Nj := some 53) #[tt, tt, tt, tt, tt, tt, tt, tt, ff, tt, tt, tt, ff, tt, ff, ff, ff, ff, ff, ff, ff, ff, ff, ff, ff, ff, ff] #[tt, tt, tt, tt, tt, tt, tt, ff, tt, tt, tt, tt, ff, tt, ff, ff, ff, ff, ff, ff, ff, ff, ff, ff, ff, ff, ff] rfl rfl rfl rfl (two_of HT_.out (by kernel_rfl)) (by decide) (by decide) (fun K hK => ?_) (fun K hK => ?_)
               ·
                skip
                refine goes_ Try.func20 (by kernel_rfl) rfl #[.slice Ao49 y492.length co49, .slice Ao10 t472.length co10] (by rfl) rfl rfl (by (try simp only [List.map_toArray, List.map_cons, List.map_nil]); first | done | rfl | (simp only [List.length_drop, List.length_take]; rfl)) ?_
                with_reducible refine (impl_RowMany.calls k1 _ _ y492 _ _ t472 t495 _ ?side1 ?side2 ?side3 ?side4 A20.out).mono ?_
                (case side1 => repeat (first | exact (Kd.N_reads' HO494.out).2.2 | (with_reducible refine zQ ?_ _) | (with_reducible refine zO ?_ _) | (with_reducible refine zP ?_)))
                (case side2 => exact (Kd.N_reads' HO494.out).2.1)
                (case side3 => repeat (first | exact (Kd.R_reads' HO_4.out).2.2 | (with_reducible refine zQ ?_ _) | (with_reducible refine zO ?_ _) | (with_reducible refine zP ?_)))
                (case side4 => exact (Kd.R_reads' HO_4.out).2.1)
                rintro e w' ⟨rfl, ⟨nd, rfl⟩⟩
                refine ⟨_, rfl, ?_⟩
                refine hK.out _ _ trivial (fun hHeld => ?_)
                clear hK K
                refine norm_ (a' := ?_) ?_ ?_
                rotate_left
                ·
                 show Act.put _ (some 52) _ = _
                 simp only [Act.put, zA, zB, zC, i64_w, i32_w]
                 rfl
                refine one_ (i := 8) (N := some 53) #[tt, tt, tt, tt, tt, tt, tt, tt, tt, tt, tt, tt, ff, tt, ff, ff, ff, ff, ff, ff, ff, ff, ff, ff, ff, ff, ff] rfl rfl (one_of HT_.out (by kernel_rfl)) (by decide) (fun K hK => ?_)
                refine Kd.N_lit_step (Kd.slice 83 k83) _ 39 ?hg (N' := 53) ?hd (xs := ([] : List (List (S83)))) (inner := []) (ok := (fun k_ => some k_ ≠ (.slice Ao9 t471.length co9 : Value).ownBlock ∧ some k_ ≠ (.slice Ao10 t472.length co10 : Value).ownBlock ∧ some k_ ≠ (.slice Ao42 t479.length co42 : Value).ownBlock ∧ some k_ ≠ (.slice Ao49 y492.length co49 : Value).ownBlock)) (okp := (fun k_ => some k_ ≠ (.slice Ao9 t471.length co9 : Value).ownBlock ∧ some k_ ≠ (.slice Ao10 t472.length co10 : Value).ownBlock ∧ some k_ ≠ (.slice Ao42 t479.length co42 : Value).ownBlock ∧ some k_ ≠ (.slice Ao49 y492.length co49 : Value).ownBlock)) ?hr ?hp (fun _ hk => hk) ((show ∀ k_, w48.heap.size ≤ k_ → (fun k_ => some k_ ≠ (.slice Ao9 t471.length co9 : Value).ownBlock ∧ some k_ ≠ (.slice Ao10 t472.length co10 : Value).ownBlock ∧ some k_ ≠ (.slice Ao42 t479.length co42 : Value).ownBlock ∧ some k_ ≠ (.slice Ao49 y492.length co49 : Value).ownBlock) k_ from fun k_ hk => ⟨Kd.fresh' (Kd.N_lt (by (with_reducible repeat (first | apply Kd.N_alloc | apply Kd.N_drewN | apply Kd.N_drew)); exact HO_3.out)) k_ hk, Kd.fresh' (Kd.R_lt (by (with_reducible repeat (first | apply zR | apply zS | apply zT)); exact HO_4.out)) k_ hk, Kd.fresh' (Kd.N_lt (by (with_reducible repeat (first | apply Kd.N_alloc | apply Kd.N_drewN | apply Kd.N_drew)); exact HO_7.out)) k_ hk, Kd.fresh' (Kd.N_lt (by (with_reducible repeat (first | apply Kd.N_alloc | apply Kd.N_drewN | apply Kd.N_drew)); exact HO494.out)) k_ hk⟩) _ (Nat.le_refl _)) (Below.refl _ _) (Nat.le_refl _) (by simp) ?_; (case hd => rfl); (case hg => rfl); (case hr => first | (go_simp; done) | (go_simp; rfl)); (case hp => exact (Reps.none _ _))
                intro v497 w50 ho51 hb hg_ hnew_
                clear hg_ hnew_
                (first | rw [← Ny496.out] at ho51 | (simp only [Int.reduceToNat] at ho51; rw [← Ny496.out] at ho51))
                have n0_ := zM (Kd.N_elder' (by (with_reducible repeat (first | apply Kd.N_alloc | apply Kd.N_drewN | apply Kd.N_drew)); exact HO_3.out) (Kd.N_base ho51) hb)
                have n1_ := zM (Kd.R_below (by (with_reducible repeat (first | apply zR | apply zS | apply zT)); exact HO_4.out) hb)
                have n2_ := zM (Kd.N_elder' (by (with_reducible repeat (first | apply Kd.N_alloc | apply Kd.N_drewN | apply Kd.N_drew)); exact HO_7.out) (Kd.N_base ho51) hb)
                have n3_ := zM (Kd.V_elder' (by (with_reducible repeat (first | apply Kd.V_alloc | apply Kd.V_drewN | apply Kd.V_drew)); exact HO491.out) (Kd.N_base ho51) hb)
                have n4_ := zM (Kd.V_elder' (by (with_reducible repeat (first | apply Kd.V_alloc | apply Kd.V_drewN | apply Kd.V_drew)); exact HO503.out) (Kd.N_base ho51) hb)
                have n5_ := zM (Kd.N_elder' (by (with_reducible repeat (first | apply Kd.N_alloc | apply Kd.N_drewN | apply Kd.N_drew)); exact HO494.out) (Kd.N_base ho51) hb)
                have n6_ := zM (Kd.N_lower ho51 (zI (by repeat (first | (with_reducible first | exact HB.out | apply zU | apply zV | apply zW) | exact HB.out))))
                have n7_ := zM (zG (by repeat (first | (with_reducible first | exact HB.out | apply zU | apply zV | apply zW) | exact HB.out)) hb)
                clear HO_3
                clear HO_4
                clear HO_7
                clear HO491
                clear HO503
                clear HO494
                clear HB
                have HO_3 := n0_
                have HO_4 := n1_
                have HO_7 := n2_
                have HO491 := n3_
                have HO503 := n4_
                have HO494 := n5_
                have HO498 := n6_
                have HB := n7_
                clear n0_ n1_ n2_ n3_ n4_ n5_ n6_ n7_
                clear hb ho51
                refine hK.out _ _ trivial (fun hHeld => ?_)
                clear hK K
                refine norm_ (a' := ?_) ?_ ?_
                rotate_left
                ·
                 show Act.put _ (some 53) _ = _
                 simp only [Act.put, zA, zB, zC, i64_w, i32_w]
                 rfl
                exact norm_ (by simp only [putAll, Act.put, zA, zB, zC]) (hCont (v485, .slice Ao49 y492.length co49, v497) _ ⟨(by (with_reducible repeat (first | apply Kd.V_alloc | apply Kd.V_drewN | apply Kd.V_drew)); exact Kd.V_mono HO491.out (fun _ hk => ⟨hk.1.2, ⟨hk.2, ⟨hk.1.1.1, hk.1.1.2⟩⟩⟩)), (by (with_reducible repeat (first | apply Kd.N_alloc | apply Kd.N_drewN | apply Kd.N_drew)); exact Kd.N_mono HO494.out (fun _ hk => ⟨hk.2, ⟨hk.1.1, hk.1.2⟩⟩)), (by (with_reducible repeat (first | apply Kd.N_alloc | apply Kd.N_drewN | apply Kd.N_drew)); exact Kd.N_mono HO498.out (fun _ hk => ⟨hk.2.2.2, ⟨hk.1, ⟨hk.2.1, hk.2.2.1⟩⟩⟩)), (by (with_reducible repeat (first | apply Kd.V_alloc | apply Kd.V_drewN | apply Kd.V_drew)); exact Kd.V_mono HO503.out (fun _ hk => ⟨hk.1.2, ⟨hk.2, ⟨hk.1.1.1, hk.1.1.2⟩⟩⟩)), (by (with_reducible repeat (first | apply Kd.N_alloc | apply Kd.N_drewN | apply Kd.N_drew)); exact Kd.N_mono HO_3.out (fun _ hk => ⟨hk.1.2, ⟨hk.2, ⟨hk.1.1.1, hk.1.1.2⟩⟩⟩)), (by (with_reducible repeat (first | apply zR | apply zS | apply zT)); exact HO_4.out), (by (with_reducible repeat (first | apply Kd.N_alloc | apply Kd.N_drewN | apply Kd.N_drew)); exact Kd.N_mono HO_7.out (fun _ hk => ⟨hk.1.2, ⟨hk.2, hk.1.1⟩⟩)), (by repeat (first | (with_reducible first | exact HB.out | apply zU | apply zV | apply zW) | exact HB.out))⟩)
               ·
                skip
                refine Kd.N_lit_step (Kd.slice 83 k83) _ 39 ?hg (N' := 53) ?hd (xs := ([] : List (List (S83)))) (inner := []) (ok := (fun k_ => some k_ ≠ (.slice Ao9 t471.length co9 : Value).ownBlock ∧ some k_ ≠ (.slice Ao10 t472.length co10 : Value).ownBlock ∧ some k_ ≠ (.slice Ao42 t479.length co42 : Value).ownBlock ∧ some k_ ≠ (.slice Ao49 y492.length co49 : Value).ownBlock)) (okp := (fun k_ => some k_ ≠ (.slice Ao9 t471.length co9 : Value).ownBlock ∧ some k_ ≠ (.slice Ao10 t472.length co10 : Value).ownBlock ∧ some k_ ≠ (.slice Ao42 t479.length co42 : Value).ownBlock ∧ some k_ ≠ (.slice Ao49 y492.length co49 : Value).ownBlock)) ?hr ?hp (fun _ hk => hk) ((show ∀ k_, w48.heap.size ≤ k_ → (fun k_ => some k_ ≠ (.slice Ao9 t471.length co9 : Value).ownBlock ∧ some k_ ≠ (.slice Ao10 t472.length co10 : Value).ownBlock ∧ some k_ ≠ (.slice Ao42 t479.length co42 : Value).ownBlock ∧ some k_ ≠ (.slice Ao49 y492.length co49 : Value).ownBlock) k_ from fun k_ hk => ⟨Kd.fresh' (Kd.N_lt (by (with_reducible repeat (first | apply Kd.N_alloc | apply Kd.N_drewN | apply Kd.N_drew)); exact HO_3.out)) k_ hk, Kd.fresh' (Kd.R_lt (by (with_reducible repeat (first | apply zR | apply zS | apply zT)); exact HO_4.out)) k_ hk, Kd.fresh' (Kd.N_lt (by (with_reducible repeat (first | apply Kd.N_alloc | apply Kd.N_drewN | apply Kd.N_drew)); exact HO_7.out)) k_ hk, Kd.fresh' (Kd.N_lt (by (with_reducible repeat (first | apply Kd.N_alloc | apply Kd.N_drewN | apply Kd.N_drew)); exact HO494.out)) k_ hk⟩) _ (Nat.le_refl _)) (Below.refl _ _) (Nat.le_refl _) (by simp) ?_; (case hd => rfl); (case hg => rfl); (case hr => first | (go_simp; done) | (go_simp; rfl)); (case hp => exact (Reps.none _ _))
                intro v497 w49 ho50 hb hg_ hnew_
                clear hg_ hnew_
                (first | rw [← Ny496.out] at ho50 | (simp only [Int.reduceToNat] at ho50; rw [← Ny496.out] at ho50))
                have n0_ := zM (Kd.N_elder' (by (with_reducible repeat (first | apply Kd.N_alloc | apply Kd.N_drewN | apply Kd.N_drew)); exact HO_3.out) (Kd.N_base ho50) hb)
                have n1_ := zM (Kd.R_below (by (with_reducible repeat (first | apply zR | apply zS | apply zT)); exact HO_4.out) hb)
                have n2_ := zM (Kd.N_elder' (by (with_reducible repeat (first | apply Kd.N_alloc | apply Kd.N_drewN | apply Kd.N_drew)); exact HO_7.out) (Kd.N_base ho50) hb)
                have n3_ := zM (Kd.V_elder' (by (with_reducible repeat (first | apply Kd.V_alloc | apply Kd.V_drewN | apply Kd.V_drew)); exact HO491.out) (Kd.N_base ho50) hb)
                have n4_ := zM (Kd.V_elder' (by (with_reducible repeat (first | apply Kd.V_alloc | apply Kd.V_drewN | apply Kd.V_drew)); exact HO503.out) (Kd.N_base ho50) hb)
                have n5_ := zM (Kd.N_elder' (by (with_reducible repeat (first | apply Kd.N_alloc | apply Kd.N_drewN | apply Kd.N_drew)); exact HO494.out) (Kd.N_base ho50) hb)
                have n6_ := zM (Kd.N_lower ho50 (zI (by repeat (first | (with_reducible first | exact HB.out | apply zU | apply zV | apply zW) | exact HB.out))))
                have n7_ := zM (zG (by repeat (first | (with_reducible first | exact HB.out | apply zU | apply zV | apply zW) | exact HB.out)) hb)
                clear HO_3
                clear HO_4
                clear HO_7
                clear HO491
                clear HO503
                clear HO494
                clear HB
                have HO_3 := n0_
                have HO_4 := n1_
                have HO_7 := n2_
                have HO491 := n3_
                have HO503 := n4_
                have HO494 := n5_
                have HO498 := n6_
                have HB := n7_
                clear n0_ n1_ n2_ n3_ n4_ n5_ n6_ n7_
                clear hb ho50
                obtain ⟨Ao51, co51, eo51⟩ := Kd.N_slice HO494.out
                (first | subst eo51 | (injection eo51 with f1_ f2_ f3_; have f4_ := f1_.symm; have f5_ := f3_.symm; clear f1_ f2_ f3_; subst f4_; subst f5_))
                refine hK.out _ _ trivial (fun hHeld => ?_)
                clear hK K
                refine norm_ (a' := ?_) ?_ ?_
                rotate_left
                ·
                 show Act.put _ (some 53) _ = _
                 simp only [Act.put, zA, zB, zC, i64_w, i32_w]
                 rfl
                refine one_ (i := 7) (N := some 52) #[tt, tt, tt, tt, tt, tt, tt, tt, tt, tt, tt, tt, ff, tt, ff, ff, ff, ff, ff, ff, ff, ff, ff, ff, ff, ff, ff] rfl rfl (one_of HT_.out (by kernel_rfl)) (by decide) (fun K hK => ?_)
                refine goes_ Try.func20 (by kernel_rfl) rfl #[.slice Ao51 y492.length co51, .slice Ao10 t472.length co10] (by rfl) rfl rfl (by (try simp only [List.map_toArray, List.map_cons, List.map_nil]); first | done | rfl | (simp only [List.length_drop, List.length_take]; rfl)) ?_
                with_reducible refine (impl_RowMany.calls k1 _ _ y492 _ _ t472 t495 _ ?side1 ?side2 ?side3 ?side4 A20.out).mono ?_
                (case side1 => repeat (first | exact (Kd.N_reads' HO494.out).2.2 | (with_reducible refine zQ ?_ _) | (with_reducible refine zO ?_ _) | (with_reducible refine zP ?_)))
                (case side2 => exact (Kd.N_reads' HO494.out).2.1)
                (case side3 => repeat (first | exact (Kd.R_reads' HO_4.out).2.2 | (with_reducible refine zQ ?_ _) | (with_reducible refine zO ?_ _) | (with_reducible refine zP ?_)))
                (case side4 => exact (Kd.R_reads' HO_4.out).2.1)
                rintro e w' ⟨rfl, ⟨nd, rfl⟩⟩
                refine ⟨_, rfl, ?_⟩
                refine hK.out _ _ trivial (fun hHeld => ?_)
                clear hK K
                refine norm_ (a' := ?_) ?_ ?_
                rotate_left
                ·
                 show Act.put _ (some 52) _ = _
                 simp only [Act.put, zA, zB, zC, i64_w, i32_w]
                 rfl
                exact norm_ (by simp only [putAll, Act.put, zA, zB, zC]) (hCont (v485, .slice Ao51 y492.length co51, v497) _ ⟨(by (with_reducible repeat (first | apply Kd.V_alloc | apply Kd.V_drewN | apply Kd.V_drew)); exact Kd.V_mono HO491.out (fun _ hk => ⟨hk.1.2, ⟨hk.2, ⟨hk.1.1.1, hk.1.1.2⟩⟩⟩)), (by (with_reducible repeat (first | apply Kd.N_alloc | apply Kd.N_drewN | apply Kd.N_drew)); exact Kd.N_mono HO494.out (fun _ hk => ⟨hk.2, ⟨hk.1.1, hk.1.2⟩⟩)), (by (with_reducible repeat (first | apply Kd.N_alloc | apply Kd.N_drewN | apply Kd.N_drew)); exact Kd.N_mono HO498.out (fun _ hk => ⟨hk.2.2.2, ⟨hk.1, ⟨hk.2.1, hk.2.2.1⟩⟩⟩)), (by (with_reducible repeat (first | apply Kd.V_alloc | apply Kd.V_drewN | apply Kd.V_drew)); exact Kd.V_mono HO503.out (fun _ hk => ⟨hk.1.2, ⟨hk.2, ⟨hk.1.1.1, hk.1.1.2⟩⟩⟩)), (by (with_reducible repeat (first | apply Kd.N_alloc | apply Kd.N_drewN | apply Kd.N_drew)); exact Kd.N_mono HO_3.out (fun _ hk => ⟨hk.1.2, ⟨hk.2, ⟨hk.1.1.1, hk.1.1.2⟩⟩⟩)), (by (with_reducible repeat (first | apply zR | apply zS | apply zT)); exact HO_4.out), (by (with_reducible repeat (first | apply Kd.N_alloc | apply Kd.N_drewN | apply Kd.N_drew)); exact Kd.N_mono HO_7.out (fun _ hk => ⟨hk.1.2, ⟨hk.2, hk.1.1⟩⟩)), (by repeat (first | (with_reducible first | exact HB.out | apply zU | apply zV | apply zW) | exact HB.out))⟩)
              ·
               skip
               refine Kd.N_lit_step (Kd.slice 83 k83) _ 39 ?hg (N' := 53) ?hd (xs := ([] : List (List (S83)))) (inner := []) (ok := (fun k_ => some k_ ≠ (.slice Ao9 t471.length co9 : Value).ownBlock ∧ some k_ ≠ (.slice Ao10 t472.length co10 : Value).ownBlock ∧ some k_ ≠ (.slice Ao42 t479.length co42 : Value).ownBlock ∧ some k_ ≠ (v485 : Value).ownBlock)) (okp := (fun k_ => some k_ ≠ (.slice Ao9 t471.length co9 : Value).ownBlock ∧ some k_ ≠ (.slice Ao10 t472.length co10 : Value).ownBlock ∧ some k_ ≠ (.slice Ao42 t479.length co42 : Value).ownBlock ∧ some k_ ≠ (v485 : Value).ownBlock)) ?hr ?hp (fun _ hk => hk) ((show ∀ k_, w46.heap.size ≤ k_ → (fun k_ => some k_ ≠ (.slice Ao9 t471.length co9 : Value).ownBlock ∧ some k_ ≠ (.slice Ao10 t472.length co10 : Value).ownBlock ∧ some k_ ≠ (.slice Ao42 t479.length co42 : Value).ownBlock ∧ some k_ ≠ (v485 : Value).ownBlock) k_ from fun k_ hk => ⟨Kd.fresh' (Kd.N_lt (by (with_reducible repeat (first | apply Kd.N_alloc | apply Kd.N_drewN | apply Kd.N_drew)); exact HO_3.out)) k_ hk, Kd.fresh' (Kd.R_lt (by (with_reducible repeat (first | apply zR | apply zS | apply zT)); exact HO_4.out)) k_ hk, Kd.fresh' (Kd.N_lt (by (with_reducible repeat (first | apply Kd.N_alloc | apply Kd.N_drewN | apply Kd.N_drew)); exact HO_7.out)) k_ hk, Kd.fresh' (Kd.N_lt (by (with_reducible repeat (first | apply Kd.N_alloc | apply Kd.N_drewN | apply Kd.N_drew)); exact HO486.out)) k_ hk⟩) _ (Nat.le_refl _)) (Below.refl _ _) (Nat.le_refl _) (by simp) ?_; (case hd => rfl); (case hg => rfl); (case hr => first | (go_simp; done) | (go_simp; rfl)); (case hp => exact (Reps.none _ _))
               intro v497 w48 ho49 hb hg_ hnew_
               clear hg_ hnew_
               (first | rw [← Ny496.out] at ho49 | (simp only [Int.reduceToNat] at ho49; rw [← Ny496.out] at ho49))
               have n0_ := zM (Kd.N_elder' (by (with_reducible repeat (first | apply Kd.N_alloc | apply Kd.N_drewN | apply Kd.N_drew)); exact HO_3.out) (Kd.N_base ho49) hb)
               have n1_ := zM (Kd.R_below (by (with_reducible repeat (first | apply zR | apply zS | apply zT)); exact HO_4.out) hb)
               have n2_ := zM (Kd.N_elder' (by (with_reducible repeat (first | apply Kd.N_alloc | apply Kd.N_drewN | apply Kd.N_drew)); exact HO_7.out) (Kd.N_base ho49) hb)
               have n3_ := zM (Kd.V_elder' (by (with_reducible repeat (first | apply Kd.V_alloc | apply Kd.V_drewN | apply Kd.V_drew)); exact HO491.out) (Kd.N_base ho49) hb)
               have n4_ := zM (Kd.V_elder' (by (with_reducible repeat (first | apply Kd.V_alloc | apply Kd.V_drewN | apply Kd.V_drew)); exact HO503.out) (Kd.N_base ho49) hb)
               have n5_ := zM (Kd.N_elder' (by (with_reducible repeat (first | apply Kd.N_alloc | apply Kd.N_drewN | apply Kd.N_drew)); exact HO486.out) (Kd.N_base ho49) hb)
               have n6_ := zM (Kd.N_lower ho49 (zI (by repeat (first | (with_reducible first | exact HB.out | apply zU | apply zV | apply zW) | exact HB.out))))
               have n7_ := zM (zG (by repeat (first | (with_reducible first | exact HB.out | apply zU | apply zV | apply zW) | exact HB.out)) hb)
               clear HO_3
               clear HO_4
               clear HO_7
               clear HO491
               clear HO503
               clear HO486
               clear HB
               have HO_3 := n0_
               have HO_4 := n1_
               have HO_7 := n2_
               have HO491 := n3_
               have HO503 := n4_
               have HO486 := n5_
               have HO498 := n6_
               have HB := n7_
               clear n0_ n1_ n2_ n3_ n4_ n5_ n6_ n7_
               clear hb ho49
               refine hK.out _ _ trivial (fun hHeld => ?_)
               clear hK K
               refine norm_ (a' := ?_) ?_ ?_
               rotate_left
               ·
                show Act.put _ (some 53) _ = _
                simp only [Act.put, zA, zB, zC, i64_w, i32_w]
                rfl
               refine one_ (i := 5) (N := some 50) #[tt, tt, tt, tt, tt, tt, tt, ff, tt, tt, tt, tt, ff, tt, ff, ff, ff, ff, ff, ff, ff, ff, ff, ff, ff, ff, ff] rfl rfl (one_of HT_.out (by kernel_rfl)) (by decide) (fun K hK => ?_)
               refine Kd.N_append_rows_step (Kd.slice 83 k83) (w0 := w) w.heap.size (by rfl) (.tmp 46) (.tmp 49) 38 39 (.slice none 0 0) 24 rfl Try.underlying38 info39 rfl (by decide) (by omega) v485 y484 y487 _ _ _ (fun k_ => some k_ ≠ (.slice Ao10 t472.length co10 : Value).ownBlock ∧ some k_ ≠ (.slice Ao42 t479.length co42 : Value).ownBlock ∧ some k_ ≠ (v497 : Value).ownBlock) (fun k_ => ((fun k_ => some k_ ≠ (.slice Ao10 t472.length co10 : Value).ownBlock ∧ some k_ ≠ (.slice Ao42 t479.length co42 : Value).ownBlock ∧ some k_ ≠ (v497 : Value).ownBlock)) k_ ∧ some k_ ≠ (v485 : Value).ownBlock) rfl rfl ?aO ?aR (fun _ hk => hk) ?aF ?aB ?aS ?aL ?_
               (case aR => exact (by skip; exact Kd.V_F (Kd.V_mono (ok' := (fun k_ => ((fun k_ => some k_ ≠ (.slice Ao10 t472.length co10 : Value).ownBlock ∧ some k_ ≠ (.slice Ao42 t479.length co42 : Value).ownBlock ∧ some k_ ≠ (v497 : Value).ownBlock)) k_ ∧ some k_ ≠ (v485 : Value).ownBlock)) (HO491.out) (fun k_ hk => ⟨⟨hk.1.1.1, ⟨hk.1.1.2, hk.2⟩⟩, hk.1.2⟩))))
               (case aB => exact (by repeat (first | (with_reducible first | exact HB.out | apply zU | apply zV | apply zW) | exact HB.out)))
               (case aF => exact (fun k_ hk => ⟨Kd.fresh' (Kd.R_lt (by (with_reducible repeat (first | apply zR | apply zS | apply zT)); exact HO_4.out)) k_ hk, Kd.fresh' (Kd.N_lt (by (with_reducible repeat (first | apply Kd.N_alloc | apply Kd.N_drewN | apply Kd.N_drew)); exact HO_7.out)) k_ hk, Kd.fresh' (Kd.N_lt (by (with_reducible repeat (first | apply Kd.N_alloc | apply Kd.N_drewN | apply Kd.N_drew)); exact HO498.out)) k_ hk⟩))
               (case aO => exact (by (with_reducible repeat (first | apply Kd.N_alloc | apply Kd.N_drewN | apply Kd.N_drew)); exact Kd.N_mono HO486.out (fun _ hk => ⟨hk.1.2.1, ⟨hk.1.2.2, hk.2⟩⟩)))
               (case aS => exact (zI (by repeat (first | (with_reducible first | exact HB.out | apply zU | apply zV | apply zW) | exact HB.out))))
               (case aL => have := LMc19.out; omega)
               intro v493 w50 ho hb hg hat
               rw [← Ny492.out] at ho
               have n0_ := zM (Kd.N_afterv (ok := (fun k_ => some k_ ≠ (.slice Ao10 t472.length co10 : Value).ownBlock ∧ some k_ ≠ (.slice Ao42 t479.length co42 : Value).ownBlock ∧ some k_ ≠ (v497 : Value).ownBlock)) (by (with_reducible repeat (first | apply Kd.N_alloc | apply Kd.N_drewN | apply Kd.N_drew)); exact Kd.N_mono HO_3.out (fun _ hk => ⟨⟨hk.1.1.1, ⟨hk.1.1.2, hk.2⟩⟩, hk.1.2⟩)) hg hat)
               have n1_ := zM (Kd.R_over' (by (with_reducible repeat (first | apply zR | apply zS | apply zT)); exact HO_4.out) (Kd.N_typed (by (with_reducible repeat (first | apply Kd.N_alloc | apply Kd.N_drewN | apply Kd.N_drew)); exact HO486.out)) (by decide) hg)
               have n2_ := zM (Kd.N_afterv (ok := (fun k_ => some k_ ≠ (.slice Ao10 t472.length co10 : Value).ownBlock ∧ some k_ ≠ (v497 : Value).ownBlock)) (by (with_reducible repeat (first | apply Kd.N_alloc | apply Kd.N_drewN | apply Kd.N_drew)); exact Kd.N_mono HO_7.out (fun _ hk => ⟨⟨hk.1.1, hk.2⟩, hk.1.2⟩)) hg hat)
               have n3_ := zM (Kd.V_afterv (ok := (fun k_ => some k_ ≠ (.slice Ao10 t472.length co10 : Value).ownBlock ∧ some k_ ≠ (.slice Ao42 t479.length co42 : Value).ownBlock ∧ some k_ ≠ (v497 : Value).ownBlock)) (by (with_reducible repeat (first | apply Kd.V_alloc | apply Kd.V_drewN | apply Kd.V_drew)); exact Kd.V_mono HO491.out (fun _ hk => ⟨⟨hk.1.1.1, ⟨hk.1.1.2, hk.2⟩⟩, hk.1.2⟩)) hg hat)
               have n4_ := zM (Kd.V_afterv (ok := (fun k_ => some k_ ≠ (.slice Ao10 t472.length co10 : Value).ownBlock ∧ some k_ ≠ (.slice Ao42 t479.length co42 : Value).ownBlock ∧ some k_ ≠ (v497 : Value).ownBlock)) (by (with_reducible repeat (first | apply Kd.V_alloc | apply Kd.V_drewN | apply Kd.V_drew)); exact Kd.V_mono HO503.out (fun _ hk => ⟨⟨hk.1.1.1, ⟨hk.1.1.2, hk.2⟩⟩, hk.1.2⟩)) hg hat)
               have n5_ := zM (Kd.N_afterv (ok := (fun k_ => some k_ ≠ (.slice Ao9 t471.length co9 : Value).ownBlock ∧ some k_ ≠ (.slice Ao10 t472.length co10 : Value).ownBlock ∧ some k_ ≠ (.slice Ao42 t479.length co42 : Value).ownBlock)) (by (with_reducible repeat (first | apply Kd.N_alloc | apply Kd.N_drewN | apply Kd.N_drew)); exact Kd.N_mono HO498.out (fun _ hk => ⟨⟨hk.1, ⟨hk.2.1, hk.2.2.1⟩⟩, hk.2.2.2⟩)) hg hat)
               have n6_ := zM (hb)
               have n7_ := zM (ho)
               clear HO_3
               clear HO_4
               clear HO_7
               clear HO491
               clear HO503
               clear HO498
               clear HB
               clear HO486
               have HO_3 := n0_
               have HO_4 := n1_
               have HO_7 := n2_
               have HO491 := n3_
               have HO503 := n4_
               have HO498 := n5_
               have HB := n6_
               have HO494 := n7_
               clear n0_ n1_ n2_ n3_ n4_ n5_ n6_ n7_
               clear ho hb hg hat
               obtain ⟨Ao51, co51, eo51⟩ := Kd.N_slice HO494.out
               (first | subst eo51 | (injection eo51 with f1_ f2_ f3_; have f4_ := f1_.symm; have f5_ := f3_.symm; clear f1_ f2_ f3_; subst f4_; subst f5_))
               refine hK.out _ _ trivial (fun hHeld => ?_)
               clear hK K
               refine norm_ (a' := ?_) ?_ ?_
               rotate_left
               ·
                show Act.put _ (some 50) _ = _
                simp only [Act.put, zA, zB, zC, i64_w, i32_w]
                rfl
               refine one_ (i := 7) (N := some 52) #[tt, tt, tt, tt, tt, tt, tt, tt, tt, tt, tt, tt, ff, tt, ff, ff, ff, ff, ff, ff, ff, ff, ff, ff, ff, ff, ff] rfl rfl (one_of HT_.out (by kernel_rfl)) (by decide) (fun K hK => ?_)
               refine goes_ Try.func20 (by kernel_rfl) rfl #[.slice Ao51 y492.length co51, .slice Ao10 t472.length co10] (by rfl) rfl rfl (by (try simp only [List.map_toArray, List.map_cons, List.map_nil]); first | done | rfl | (simp only [List.length_drop, List.length_take]; rfl)) ?_
               with_reducible refine (impl_RowMany.calls k1 _ _ y492 _ _ t472 t495 _ ?side1 ?side2 ?side3 ?side4 A20.out).mono ?_
               (case side1 => repeat (first | exact (Kd.N_reads' HO494.out).2.2 | (with_reducible refine zQ ?_ _) | (with_reducible refine zO ?_ _) | (with_reducible refine zP ?_)))
               (case side2 => exact (Kd.N_reads' HO494.out).2.1)
               (case side3 => repeat (first | exact (Kd.R_reads' HO_4.out).2.2 | (with_reducible refine zQ ?_ _) | (with_reducible refine zO ?_ _) | (with_reducible refine zP ?_)))
               (case side4 => exact (Kd.R_reads' HO_4.out).2.1)
               rintro e w' ⟨rfl, ⟨nd, rfl⟩⟩
               refine ⟨_, rfl, ?_⟩
               refine hK.out _ _ trivial (fun hHeld => ?_)
               clear hK K
               refine norm_ (a' := ?_) ?_ ?_
               rotate_left
               ·
                show Act.put _ (some 52) _ = _
                simp only [Act.put, zA, zB, zC, i64_w, i32_w]
                rfl
               exact norm_ (by simp only [putAll, Act.put, zA, zB, zC]) (hCont (v485, .slice Ao51 y492.length co51, v497) _ ⟨(by (with_reducible repeat (first | apply Kd.V_alloc | apply Kd.V_drewN | apply Kd.V_drew)); exact Kd.V_mono HO491.out (fun _ hk => ⟨hk.2, ⟨hk.1.2.2, ⟨hk.1.1, hk.1.2.1⟩⟩⟩)), (by (with_reducible repeat (first | apply Kd.N_alloc | apply Kd.N_drewN | apply Kd.N_drew)); exact Kd.N_mono HO494.out (fun _ hk => ⟨hk.2.2, ⟨hk.1, hk.2.1⟩⟩)), (by (with_reducible repeat (first | apply Kd.N_alloc | apply Kd.N_drewN | apply Kd.N_drew)); exact Kd.N_mono HO498.out (fun _ hk => ⟨hk.2, ⟨hk.1.1, ⟨hk.1.2.1, hk.1.2.2⟩⟩⟩)), (by (with_reducible repeat (first | apply Kd.V_alloc | apply Kd.V_drewN | apply Kd.V_drew)); exact Kd.V_mono HO503.out (fun _ hk => ⟨hk.2, ⟨hk.1.2.2, ⟨hk.1.1, hk.1.2.1⟩⟩⟩)), (by (with_reducible repeat (first | apply Kd.N_alloc | apply Kd.N_drewN | apply Kd.N_drew)); exact Kd.N_mono HO_3.out (fun _ hk => ⟨hk.2, ⟨hk.1.2.2, ⟨hk.1.1, hk.1.2.1⟩⟩⟩)), (by (with_reducible repeat (first | apply zR | apply zS | apply zT)); exact HO_4.out), (by (with_reducible repeat (first | apply Kd.N_alloc | apply Kd.N_drewN | apply Kd.N_drew)); exact Kd.N_mono HO_7.out (fun _ hk => ⟨hk.2, ⟨hk.1.2, hk.1.1⟩⟩)), (by repeat (first | (with_reducible first | exact HB.out | apply zU | apply zV | apply zW) | exact HB.out))⟩)
             ·
              skip
              refine Kd.N_lit_step (Kd.slice 83 k83) _ 39 ?hg (N' := 53) ?hd (xs := ([] : List (List (S83)))) (inner := []) (ok := (fun k_ => some k_ ≠ (.slice Ao9 t471.length co9 : Value).ownBlock ∧ some k_ ≠ (.slice Ao10 t472.length co10 : Value).ownBlock ∧ some k_ ≠ (.slice Ao42 t479.length co42 : Value).ownBlock)) (okp := (fun k_ => some k_ ≠ (.slice Ao9 t471.length co9 : Value).ownBlock ∧ some k_ ≠ (.slice Ao10 t472.length co10 : Value).ownBlock ∧ some k_ ≠ (.slice Ao42 t479.length co42 : Value).ownBlock)) ?hr ?hp (fun _ hk => hk) ((show ∀ k_, w43.heap.size ≤ k_ → (fun k_ => some k_ ≠ (.slice Ao9 t471.length co9 : Value).ownBlock ∧ some k_ ≠ (.slice Ao10 t472.length co10 : Value).ownBlock ∧ some k_ ≠ (.slice Ao42 t479.length co42 : Value).ownBlock) k_ from fun k_ hk => ⟨Kd.fresh' (Kd.N_lt (by (with_reducible repeat (first | apply Kd.N_alloc | apply Kd.N_drewN | apply Kd.N_drew)); exact HO_3.out)) k_ hk, Kd.fresh' (Kd.R_lt (by (with_reducible repeat (first | apply zR | apply zS | apply zT)); exact HO_4.out)) k_ hk, Kd.fresh' (Kd.N_lt (by (with_reducible repeat (first | apply Kd.N_alloc | apply Kd.N_drewN | apply Kd.N_drew)); exact HO_7.out)) k_ hk⟩) _ (Nat.le_refl _)) (Below.refl _ _) (Nat.le_refl _) (by simp) ?_; (case hd => rfl); (case hg => rfl); (case hr => first | (go_simp; done) | (go_simp; rfl)); (case hp => exact (Reps.none _ _))
              intro v497 w46 ho47 hb hg_ hnew_
              clear hg_ hnew_
              (first | rw [← Ny496.out] at ho47 | (simp only [Int.reduceToNat] at ho47; rw [← Ny496.out] at ho47))
              have n0_ := zM (Kd.N_elder' (by (with_reducible repeat (first | apply Kd.N_alloc | apply Kd.N_drewN | apply Kd.N_drew)); exact HO_3.out) (Kd.N_base ho47) hb)
              have n1_ := zM (Kd.R_below (by (with_reducible repeat (first | apply zR | apply zS | apply zT)); exact HO_4.out) hb)
              have n2_ := zM (Kd.N_elder' (by (with_reducible repeat (first | apply Kd.N_alloc | apply Kd.N_drewN | apply Kd.N_drew)); exact HO_7.out) (Kd.N_base ho47) hb)
              have n3_ := zM (Kd.V_elder' (by (with_reducible repeat (first | apply Kd.V_alloc | apply Kd.V_drewN | apply Kd.V_drew)); exact HO491.out) (Kd.N_base ho47) hb)
              have n4_ := zM (Kd.V_elder' (by (with_reducible repeat (first | apply Kd.V_alloc | apply Kd.V_drewN | apply Kd.V_drew)); exact HO503.out) (Kd.N_base ho47) hb)
              have n5_ := zM (Kd.N_lower ho47 (zI (by repeat (first | (with_reducible first | exact HB.out | apply zU | apply zV | apply zW) | exact HB.out))))
              have n6_ := zM (zG (by repeat (first | (with_reducible first | exact HB.out | apply zU | apply zV | apply zW) | exact HB.out)) hb)
              clear HO_3
              clear HO_4
              clear HO_7
              clear HO491
              clear HO503
              clear HB
              have HO_3 := n0_
              have HO_4 := n1_
              have HO_7 := n2_
              have HO491 := n3_
              have HO503 := n4_
              have HO498 := n5_
              have HB := n6_
              clear n0_ n1_ n2_ n3_ n4_ n5_ n6_
              clear hb ho47
              refine hK.out _ _ trivial (fun hHeld => ?_)
              clear hK K
              refine norm_ (a' := ?_) ?_ ?_
              rotate_left
              ·
               show Act.put _ (some 53) _ = _
               simp only [Act.put, zA, zB, zC, i64_w, i32_w]
               rfl
              refine one_ (i := 1) (N := some 46) #[tt, tt, tt, tt, tt, ff, tt, ff, tt, tt, tt, tt, ff, tt, ff, ff, ff, ff, ff, ff, ff, ff, ff, ff, ff, ff, ff] rfl rfl (one_of HT_.out (by kernel_rfl)) (by decide) (fun K hK => ?_)
              refine Kd.N_lit_step (Kd.slice 83 k83) _ 39 ?hg (N' := 46) ?hd (xs := ([] : List (List (S83)))) (inner := []) (ok := (fun k_ => some k_ ≠ (.slice Ao9 t471.length co9 : Value).ownBlock ∧ some k_ ≠ (.slice Ao10 t472.length co10 : Value).ownBlock ∧ some k_ ≠ (.slice Ao42 t479.length co42 : Value).ownBlock ∧ some k_ ≠ (v497 : Value).ownBlock)) (okp := (fun k_ => some k_ ≠ (.slice Ao9 t471.length co9 : Value).ownBlock ∧ some k_ ≠ (.slice Ao10 t472.length co10 : Value).ownBlock ∧ some k_ ≠ (.slice Ao42 t479.length co42 : Value).ownBlock ∧ some k_ ≠ (v497 : Value).ownBlock)) ?hr ?hp (fun _ hk => hk) ((show ∀ k_, w46.heap.size ≤ k_ → (fun k_ => some k_ ≠ (.slice Ao9 t471.length co9 : Value).ownBlock ∧ some k_ ≠ (.slice Ao10 t472.length co10 : Value).ownBlock ∧ some k_ ≠ (.slice Ao42 t479.length co42 : Value).ownBlock ∧ some k_ ≠ (v497 : Value).ownBlock) k_ from fun k_ hk => ⟨Kd.fresh' (Kd.N_lt (by (with_reducible repeat (first | apply Kd.N_alloc | apply Kd.N_drewN | apply Kd.N_drew)); exact HO_3.out)) k_ hk, Kd.fresh' (Kd.R_lt (by (with_reducible repeat (first | apply zR | apply zS | apply zT)); exact HO_4.out)) k_ hk, Kd.fresh' (Kd.N_lt (by (with_reducible repeat (first | apply Kd.N_alloc | apply Kd.N_drewN | apply Kd.N_drew)); exact HO_7.out)) k_ hk, Kd.fresh' (Kd.N_lt (by (with_reducible repeat (first | apply Kd.N_alloc | apply Kd.N_drewN | apply Kd.N_drew)); exact HO498.out)) k_ hk⟩) _ (Nat.le_refl _)) (Below.refl _ _) (Nat.le_refl _) (by simp) ?_; (case hd => rfl); (case hg => rfl); (case hr => first | (go_simp; done) | (go_simp; rfl)); (case hp => exact (Reps.none _ _))
              intro v485 w48 ho49 hb hg_ hnew_
              clear hg_ hnew_
              (first | rw [← Ny484.out] at ho49 | (simp only [Int.reduceToNat] at ho49; rw [← Ny484.out] at ho49))
              have n0_ := zM (Kd.N_elder' (by (with_reducible repeat (first | apply Kd.N_alloc | apply Kd.N_drewN | apply Kd.N_drew)); exact HO_3.out) (Kd.N_base ho49) hb)
              have n1_ := zM (Kd.R_below (by (with_reducible repeat (first | apply zR | apply zS | apply zT)); exact HO_4.out) hb)
              have n2_ := zM (Kd.N_elder' (by (with_reducible repeat (first | apply Kd.N_alloc | apply Kd.N_drewN | apply Kd.N_drew)); exact HO_7.out) (Kd.N_base ho49) hb)
              have n3_ := zM (Kd.V_elder' (by (with_reducible repeat (first | apply Kd.V_alloc | apply Kd.V_drewN | apply Kd.V_drew)); exact HO491.out) (Kd.N_base ho49) hb)
              have n4_ := zM (Kd.V_elder' (by (with_reducible repeat (first | apply Kd.V_alloc | apply Kd.V_drewN | apply Kd.V_drew)); exact HO503.out) (Kd.N_base ho49) hb)
              have n5_ := zM (Kd.N_elder' (by (with_reducible repeat (first | apply Kd.N_alloc | apply Kd.N_drewN | apply Kd.N_drew)); exact HO498.out) (Kd.N_base ho49) hb)
              have n6_ := zM (Kd.N_lower ho49 (zI (by repeat (first | (with_reducible first | exact HB.out | apply zU | apply zV | apply zW) | exact HB.out))))
              have n7_ := zM (zG (by repeat (first | (with_reducible first | exact HB.out | apply zU | apply zV | apply zW) | exact HB.out)) hb)
              clear HO_3
              clear HO_4
              clear HO_7
              clear HO491
              clear HO503
              clear HO498
              clear HB
              have HO_3 := n0_
              have HO_4 := n1_
              have HO_7 := n2_
              have HO491 := n3_
              have HO503 := n4_
              have HO498 := n5_
              have HO486 := n6_
              have HB := n7_
              clear n0_ n1_ n2_ n3_ n4_ n5_ n6_ n7_
              clear hb ho49
              refine hK.out _ _ trivial (fun hHeld => ?_)
              clear hK K
              refine norm_ (a' := ?_) ?_ ?_
              rotate_left
              ·
               show Act.put _ (some 46) _ = _
               simp only [Act.put, zA, zB, zC, i64_w, i32_w]
               rfl
              refine one_ (i := 5) (N := some 50) #[tt, tt, tt, tt, tt, tt, tt, ff, tt, tt, tt, tt, ff, tt, ff, ff, ff, ff, ff, ff, ff, ff, ff, ff, ff, ff, ff] rfl rfl (one_of HT_.out (by kernel_rfl)) (by decide) (fun K hK => ?_)
              refine Kd.N_append_rows_step (Kd.slice 83 k83) (w0 := w) w.heap.size (by rfl) (.tmp 46) (.tmp 49) 38 39 (.slice none 0 0) 24 rfl Try.underlying38 info39 rfl (by decide) (by omega) v485 y484 y487 _ _ _ (fun k_ => some k_ ≠ (.slice Ao10 t472.length co10 : Value).ownBlock ∧ some k_ ≠ (.slice Ao42 t479.length co42 : Value).ownBlock ∧ some k_ ≠ (v497 : Value).ownBlock) (fun k_ => ((fun k_ => some k_ ≠ (.slice Ao10 t472.length co10 : Value).ownBlock ∧ some k_ ≠ (.slice Ao42 t479.length co42 : Value).ownBlock ∧ some k_ ≠ (v497 : Value).ownBlock)) k_ ∧ some k_ ≠ (v485 : Value).ownBlock) rfl rfl ?aO ?aR (fun _ hk => hk) ?aF ?aB ?aS ?aL ?_
              (case aR => exact (by skip; exact Kd.V_F (Kd.V_mono (ok' := (fun k_ => ((fun k_ => some k_ ≠ (.slice Ao10 t472.length co10 : Value).ownBlock ∧ some k_ ≠ (.slice Ao42 t479.length co42 : Value).ownBlock ∧ some k_ ≠ (v497 : Value).ownBlock)) k_ ∧ some k_ ≠ (v485 : Value).ownBlock)) (HO491.out) (fun k_ hk => ⟨⟨hk.1.1.1, ⟨hk.1.1.2, hk.1.2⟩⟩, hk.2⟩))))
              (case aB => exact (by repeat (first | (with_reducible first | exact HB.out | apply zU | apply zV | apply zW) | exact HB.out)))
              (case aF => exact (fun k_ hk => ⟨Kd.fresh' (Kd.R_lt (by (with_reducible repeat (first | apply zR | apply zS | apply zT)); exact HO_4.out)) k_ hk, Kd.fresh' (Kd.N_lt (by (with_reducible repeat (first | apply Kd.N_alloc | apply Kd.N_drewN | apply Kd.N_drew)); exact HO_7.out)) k_ hk, Kd.fresh' (Kd.N_lt (by (with_reducible repeat (first | apply Kd.N_alloc | apply Kd.N_drewN | apply Kd.N_drew)); exact HO498.out)) k_ hk⟩))
              (case aO => exact (by (with_reducible repeat (first | apply Kd.N_alloc | apply Kd.N_drewN | apply Kd.N_drew)); exact Kd.N_mono HO486.out (fun _ hk => ⟨hk.2.1, ⟨hk.2.2.1, hk.2.2.2⟩⟩)))
              (case aS => exact (zI (by repeat (first | (with_reducible first | exact HB.out | apply zU | apply zV | apply zW) | exact HB.out))))
              (case aL => have := LMc19.out; omega)
              intro v493 w50 ho hb hg hat
              rw [← Ny492.out] at ho
              have n0_ := zM (Kd.N_afterv (ok := (fun k_ => some k_ ≠ (.slice Ao10 t472.length co10 : Value).ownBlock ∧ some k_ ≠ (.slice Ao42 t479.length co42 : Value).ownBlock ∧ some k_ ≠ (v497 : Value).ownBlock)) (by (with_reducible repeat (first | apply Kd.N_alloc | apply Kd.N_drewN | apply Kd.N_drew)); exact Kd.N_mono HO_3.out (fun _ hk => ⟨⟨hk.1.1.1, ⟨hk.1.1.2, hk.1.2⟩⟩, hk.2⟩)) hg hat)
              have n1_ := zM (Kd.R_over' (by (with_reducible repeat (first | apply zR | apply zS | apply zT)); exact HO_4.out) (Kd.N_typed (by (with_reducible repeat (first | apply Kd.N_alloc | apply Kd.N_drewN | apply Kd.N_drew)); exact HO486.out)) (by decide) hg)
              have n2_ := zM (Kd.N_afterv (ok := (fun k_ => some k_ ≠ (.slice Ao10 t472.length co10 : Value).ownBlock ∧ some k_ ≠ (v497 : Value).ownBlock)) (by (with_reducible repeat (first | apply Kd.N_alloc | apply Kd.N_drewN | apply Kd.N_drew)); exact HO_7.out) hg hat)
              have n3_ := zM (Kd.V_afterv (ok := (fun k_ => some k_ ≠ (.slice Ao10 t472.length co10 : Value).ownBlock ∧ some k_ ≠ (.slice Ao42 t479.length co42 : Value).ownBlock ∧ some k_ ≠ (v497 : Value).ownBlock)) (by (with_reducible repeat (first | apply Kd.V_alloc | apply Kd.V_drewN | apply Kd.V_drew)); exact Kd.V_mono HO491.out (fun _ hk => ⟨⟨hk.1.1.1, ⟨hk.1.1.2, hk.1.2⟩⟩, hk.2⟩)) hg hat)
              have n4_ := zM (Kd.V_afterv (ok := (fun k_ => some k_ ≠ (.slice Ao10 t472.length co10 : Value).ownBlock ∧ some k_ ≠ (.slice Ao42 t479.length co42 : Value).ownBlock ∧ some k_ ≠ (v497 : Value).ownBlock)) (by (with_reducible repeat (first | apply Kd.V_alloc | apply Kd.V_drewN | apply Kd.V_drew)); exact Kd.V_mono HO503.out (fun _ hk => ⟨⟨hk.1.1.1, ⟨hk.1.1.2, hk.1.2⟩⟩, hk.2⟩)) hg hat)
              have n5_ := zM (Kd.N_afterv (ok := (fun k_ => some k_ ≠ (.slice Ao9 t471.length co9 : Value).ownBlock ∧ some k_ ≠ (.slice Ao10 t472.length co10 : Value).ownBlock ∧ some k_ ≠ (.slice Ao42 t479.length co42 : Value).ownBlock)) (by (with_reducible repeat (first | apply Kd.N_alloc | apply Kd.N_drewN | apply Kd.N_drew)); exact HO498.out) hg hat)
              have n6_ := zM (hb)
              have n7_ := zM (ho)
              clear HO_3
              clear HO_4
              clear HO_7
              clear HO491
              clear HO503
              clear HO498
              clear HB
              clear HO486
              have HO_3 := n0_
              have HO_4 := n1_
              have HO_7 := n2_
              have HO491 := n3_
              have HO503 := n4_
              have HO498 := n5_
              have HB := n6_
              have HO494 := n7_
              clear n0_ n1_ n2_ n3_ n4_ n5_ n6_ n7_
              clear ho hb hg hat
              obtain ⟨Ao51, co51, eo51⟩ := Kd.N_slice HO494.out
              (first | subst eo51 | (injection eo51 with f1_ f2_ f3_; have f4_ := f1_.symm; have f5_ := f3_.symm; clear f1_ f2_ f3_; subst f4_; subst f5_))
              refine hK.out _ _ trivial (fun hHeld => ?_)
              clear hK K
              refine norm_ (a' := ?_) ?_ ?_
              rotate_left
              ·
               show Act.put _ (some 50) _ = _
               simp only [Act.put, zA, zB, zC, i64_w, i32_w]
               rfl
              refine one_ (i := 7) (N := some 52) #[tt, tt, tt, tt, tt, tt, tt, tt, tt, tt, tt, tt, ff, tt, ff, ff, ff, ff, ff, ff, ff, ff, ff, ff, ff, ff, ff] rfl rfl (one_of HT_.out (by kernel_rfl)) (by decide) (fun K hK => ?_)
              refine goes_ Try.func20 (by kernel_rfl) rfl #[.slice Ao51 y492.length co51, .slice Ao10 t472.length co10] (by rfl) rfl rfl (by (try simp only [List.map_toArray, List.map_cons, List.map_nil]); first | done | rfl | (simp only [List.length_drop, List.length_take]; rfl)) ?_
              with_reducible refine (impl_RowMany.calls k1 _ _ y492 _ _ t472 t495 _ ?side1 ?side2 ?side3 ?side4 A20.out).mono ?_
              (case side1 => repeat (first | exact (Kd.N_reads' HO494.out).2.2 | (with_reducible refine zQ ?_ _) | (with_reducible refine zO ?_ _) | (with_reducible refine zP ?_)))
              (case side2 => exact (Kd.N_reads' HO494.out).2.1)
              (case side3 => repeat (first | exact (Kd.R_reads' HO_4.out).2.2 | (with_reducible refine zQ ?_ _) | (with_reducible refine zO ?_ _) | (with_reducible refine zP ?_)))
              (case side4 => exact (Kd.R_reads' HO_4.out).2.1)
              rintro e w' ⟨rfl, ⟨nd, rfl⟩⟩
              refine ⟨_, rfl, ?_⟩
              refine hK.out _ _ trivial (fun hHeld => ?_)
              clear hK K
              refine norm_ (a' := ?_) ?_ ?_
              rotate_left
              ·
               show Act.put _ (some 52) _ = _
               simp only [Act.put, zA, zB, zC, i64_w, i32_w]
               rfl
              exact norm_ (by simp only [putAll, Act.put, zA, zB, zC]) (hCont (v485, .slice Ao51 y492.length co51, v497) _ ⟨(by (with_reducible repeat (first | apply Kd.V_alloc | apply Kd.V_drewN | apply Kd.V_drew)); exact Kd.V_mono HO491.out (fun _ hk => ⟨hk.2, ⟨hk.1.2.2, ⟨hk.1.1, hk.1.2.1⟩⟩⟩)), (by (with_reducible repeat (first | apply Kd.N_alloc | apply Kd.N_drewN | apply Kd.N_drew)); exact Kd.N_mono HO494.out (fun _ hk => ⟨hk.2.2, ⟨hk.1, hk.2.1⟩⟩)), (by (with_reducible repeat (first | apply Kd.N_alloc | apply Kd.N_drewN | apply Kd.N_drew)); exact Kd.N_mono HO498.out (fun _ hk => ⟨hk.2, ⟨hk.1.1, ⟨hk.1.2.1, hk.1.2.2⟩⟩⟩)), (by (with_reducible repeat (first | apply Kd.V_alloc | apply Kd.V_drewN | apply Kd.V_drew)); exact Kd.V_mono HO503.out (fun _ hk => ⟨hk.2, ⟨hk.1.2.2, ⟨hk.1.1, hk.1.2.1⟩⟩⟩)), (by (with_reducible repeat (first | apply Kd.N_alloc | apply Kd.N_drewN | apply Kd.N_drew)); exact Kd.N_mono HO_3.out (fun _ hk => ⟨hk.2, ⟨hk.1.2.2, ⟨hk.1.1, hk.1.2.1⟩⟩⟩)), (by (with_reducible repeat (first | apply zR | apply zS | apply zT)); exact HO_4.out), (by (with_reducible repeat (first | apply Kd.N_alloc | apply Kd.N_drewN | apply Kd.N_drew)); exact Kd.N_mono HO_7.out (fun _ hk => ⟨hk.2, ⟨hk.1.2, hk.1.1⟩⟩)), (by repeat (first | (with_reducible first | exact HB.out | apply zU | apply zV | apply zW) | exact HB.out))⟩)
            rintro ⟨v485, v493, v497⟩ w52 ⟨h0_, h1_, h2_, h3_, h4_, h5_, h6_, h7_⟩
            have n0_ : Aside0 (Kd.V (Kd.slice 83 k83) 39 w52 w.heap.size (fun k_ => some k_ ≠ (v493 : Value).ownBlock ∧ some k_ ≠ (v497 : Value).ownBlock ∧ some k_ ≠ (.slice Ao10 t472.length co10 : Value).ownBlock ∧ some k_ ≠ (.slice Ao42 t479.length co42 : Value).ownBlock) (.slice Ao9 y487.length co9) y487) := ⟨h0_⟩
            have n1_ : Aside0 (Kd.N (Kd.slice 83 k83) 39 w52 w.heap.size (fun k_ => some k_ ≠ (v497 : Value).ownBlock ∧ some k_ ≠ (.slice Ao10 t472.length co10 : Value).ownBlock ∧ some k_ ≠ (.slice Ao42 t479.length co42 : Value).ownBlock) v493 y492) := ⟨h1_⟩
            have n2_ : Aside0 (Kd.N (Kd.slice 83 k83) 39 w52 w.heap.size (fun k_ => some k_ ≠ (v493 : Value).ownBlock ∧ some k_ ≠ (.slice Ao9 t471.length co9 : Value).ownBlock ∧ some k_ ≠ (.slice Ao10 t472.length co10 : Value).ownBlock ∧ some k_ ≠ (.slice Ao42 t479.length co42 : Value).ownBlock) v497 y496) := ⟨h2_⟩
            have n3_ : Aside0 (Kd.V (Kd.slice 83 k83) 39 w52 w.heap.size (fun k_ => some k_ ≠ (v493 : Value).ownBlock ∧ some k_ ≠ (v497 : Value).ownBlock ∧ some k_ ≠ (.slice Ao10 t472.length co10 : Value).ownBlock ∧ some k_ ≠ (.slice Ao42 t479.length co42 : Value).ownBlock) (.slice A45 y499.length c45) y499) := ⟨h3_⟩
            have n4_ : Aside0 (Kd.N (Kd.slice 83 k83) 39 w52 w.heap.size (fun k_ => some k_ ≠ (v493 : Value).ownBlock ∧ some k_ ≠ (v497 : Value).ownBlock ∧ some k_ ≠ (.slice Ao10 t472.length co10 : Value).ownBlock ∧ some k_ ≠ (.slice Ao42 t479.length co42 : Value).ownBlock) (.slice Ao9 t471.length co9) t471) := ⟨h4_⟩
            have n5_ : Aside0 (Kd.R k83 83 w52 w.heap.size (fun _ => True) (.slice Ao10 t472.length co10) t472) := ⟨h5_⟩
            have n6_ : Aside0 (Kd.N (Kd.slice 83 k83) 39 w52 w.heap.size (fun k_ => some k_ ≠ (v493 : Value).ownBlock ∧ some k_ ≠ (v497 : Value).ownBlock ∧ some k_ ≠ (.slice Ao10 t472.length co10 : Value).ownBlock) (.slice Ao42 t479.length co42) t479) := ⟨h6_⟩
            have n7_ : Aside0 (Below w.heap.size w w52) := ⟨h7_⟩
            clear HO_3
            clear HO_4
            clear HO_7
            clear HB
            clear h0_ h1_ h2_ h3_ h4_ h5_ h6_ h7_
            have HO491 := n0_
            have HO494 := n1_
            have HO498 := n2_
            have HO503 := n3_
            have HO_3 := n4_
            have HO_4 := n5_
            have HO_7 := n6_
            have HB := n7_
            clear n0_ n1_ n2_ n3_ n4_ n5_ n6_ n7_
            have hHeld := trivial
            refine norm_ (a' := ?_) ?_ ?_
            rotate_left
            ·
             simp only [putAll, Act.put, zA, zB, zC]
             rfl
            refine one_ (i := 12) (N := some 57) #[tt, tt, tt, tt, tt, tt, tt, tt, tt, tt, tt, tt, tt, tt, ff, ff, ff, ff, ff, ff, ff, ff, ff, ff, ff, ff, ff] rfl rfl (one_of HT_.out (by kernel_rfl)) (by decide) (fun K hK => ?_)
            refine Kd.N_append_rows_step (Kd.slice 83 k83) (w0 := w) w.heap.size (by rfl) (.tmp 53) (.tmp 56) 38 39 (.slice none 0 0) 24 rfl Try.underlying38 info39 rfl (by decide) (by omega) v497 y496 y499 _ _ _ (fun k_ => some k_ ≠ (.slice Ao10 t472.length co10 : Value).ownBlock ∧ some k_ ≠ (.slice Ao42 t479.length co42 : Value).ownBlock ∧ some k_ ≠ (v493 : Value).ownBlock) (fun k_ => ((fun k_ => some k_ ≠ (.slice Ao10 t472.length co10 : Value).ownBlock ∧ some k_ ≠ (.slice Ao42 t479.length co42 : Value).ownBlock ∧ some k_ ≠ (v493 : Value).ownBlock)) k_ ∧ some k_ ≠ (v497 : Value).ownBlock) rfl rfl ?aO ?aR (fun _ hk => hk) ?aF ?aB ?aS ?aL ?_
            (case aR => exact (by skip; exact Kd.V_F (Kd.V_mono (ok' := (fun k_ => ((fun k_ => some k_ ≠ (.slice Ao10 t472.length co10 : Value).ownBlock ∧ some k_ ≠ (.slice Ao42 t479.length co42 : Value).ownBlock ∧ some k_ ≠ (v493 : Value).ownBlock)) k_ ∧ some k_ ≠ (v497 : Value).ownBlock)) (HO503.out) (fun k_ hk => ⟨⟨hk.2.2.1, ⟨hk.2.2.2, hk.1⟩⟩, hk.2.1⟩))))
            (case aB => exact (by repeat (first | (with_reducible first | exact HB.out | apply zU | apply zV | apply zW) | exact HB.out)))
            (case aF => exact (fun k_ hk => ⟨Kd.fresh' (Kd.R_lt (by (with_reducible repeat (first | apply zR | apply zS | apply zT)); exact HO_4.out)) k_ hk, Kd.fresh' (Kd.N_lt (by (with_reducible repeat (first | apply Kd.N_alloc | apply Kd.N_drewN | apply Kd.N_drew)); exact HO_7.out)) k_ hk, Kd.fresh' (Kd.N_lt (by (with_reducible repeat (first | apply Kd.N_alloc | apply Kd.N_drewN | apply Kd.N_drew)); exact HO494.out)) k_ hk⟩))
            (case aO => exact (by (with_reducible repeat (first | apply Kd.N_alloc | apply Kd.N_drewN | apply Kd.N_drew)); exact Kd.N_mono HO498.out (fun _ hk => ⟨hk.2.2.1, ⟨hk.2.2.2, hk.1⟩⟩)))
            (case aS => exact (zI (by repeat (first | (with_reducible first | exact HB.out | apply zU | apply zV | apply zW) | exact HB.out))))
            (case aL => have := LMc23.out; omega)
            intro v505 w53 ho hb hg hat
            rw [← Ny504.out] at ho
            have n0_ := zM (Kd.N_afterv (ok := (fun k_ => some k_ ≠ (.slice Ao10 t472.length co10 : Value).ownBlock ∧ some k_ ≠ (.slice Ao42 t479.length co42 : Value).ownBlock ∧ some k_ ≠ (v493 : Value).ownBlock)) (by (with_reducible repeat (first | apply Kd.N_alloc | apply Kd.N_drewN | apply Kd.N_drew)); exact Kd.N_mono HO_3.out (fun _ hk => ⟨⟨hk.2.2.1, ⟨hk.2.2.2, hk.1⟩⟩, hk.2.1⟩)) hg hat)
            have n1_ := zM (Kd.R_over' (by (with_reducible repeat (first | apply zR | apply zS | apply zT)); exact HO_4.out) (Kd.N_typed (by (with_reducible repeat (first | apply Kd.N_alloc | apply Kd.N_drewN | apply Kd.N_drew)); exact HO498.out)) (by decide) hg)
            have n2_ := zM (Kd.N_afterv (ok := (fun k_ => some k_ ≠ (.slice Ao10 t472.length co10 : Value).ownBlock ∧ some k_ ≠ (v493 : Value).ownBlock)) (by (with_reducible repeat (first | apply Kd.N_alloc | apply Kd.N_drewN | apply Kd.N_drew)); exact Kd.N_mono HO_7.out (fun _ hk => ⟨⟨hk.2.2, hk.1⟩, hk.2.1⟩)) hg hat)
            have n3_ := zM (Kd.V_afterv (ok := (fun k_ => some k_ ≠ (.slice Ao10 t472.length co10 : Value).ownBlock ∧ some k_ ≠ (.slice Ao42 t479.length co42 : Value).ownBlock ∧ some k_ ≠ (v493 : Value).ownBlock)) (by (with_reducible repeat (first | apply Kd.V_alloc | apply Kd.V_drewN | apply Kd.V_drew)); exact Kd.V_mono HO491.out (fun _ hk => ⟨⟨hk.2.2.1, ⟨hk.2.2.2, hk.1⟩⟩, hk.2.1⟩)) hg hat)
            have n4_ := zM (Kd.V_afterv (ok := (fun k_ => some k_ ≠ (.slice Ao10 t472.length co10 : Value).ownBlock ∧ some k_ ≠ (.slice Ao42 t479.length co42 : Value).ownBlock ∧ some k_ ≠ (v493 : Value).ownBlock)) (by (with_reducible repeat (first | apply Kd.V_alloc | apply Kd.V_drewN | apply Kd.V_drew)); exact Kd.V_mono HO503.out (fun _ hk => ⟨⟨hk.2.2.1, ⟨hk.2.2.2, hk.1⟩⟩, hk.2.1⟩)) hg hat)
            have n5_ := zM (Kd.N_afterv (ok := (fun k_ => some k_ ≠ (.slice Ao10 t472.length co10 : Value).ownBlock ∧ some k_ ≠ (.slice Ao42 t479.length co42 : Value).ownBlock)) (by (with_reducible repeat (first | apply Kd.N_alloc | apply Kd.N_drewN | apply Kd.N_drew)); exact Kd.N_mono HO494.out (fun _ hk => ⟨⟨hk.2.1, hk.2.2⟩, hk.1⟩)) hg hat)
            have n6_ := zM (hb)
            have n7_ := zM (ho)
            clear HO_3
            clear HO_4
            clear HO_7
            clear HO491
            clear HO503
            clear HO494
            clear HB
            clear HO498
            have HO_3 := n0_
            have HO_4 := n1_
            have HO_7 := n2_
            have HO491 := n3_
            have HO503 := n4_
            have HO494 := n5_
            have HB := n6_
            have HO506 := n7_
            clear n0_ n1_ n2_ n3_ n4_ n5_ n6_ n7_
            clear ho hb hg hat
            obtain ⟨Ao54, co54, eo54⟩ := Kd.N_slice HO506.out
            (first | subst eo54 | (injection eo54 with f1_ f2_ f3_; have f4_ := f1_.symm; have f5_ := f3_.symm; clear f1_ f2_ f3_; subst f4_; subst f5_))
            refine hK.out _ _ trivial (fun hHeld => ?_)
            clear hK K
            refine norm_ (a' := ?_) ?_ ?_
            rotate_left
            ·
             show Act.put _ (some 57) _ = _
             simp only [Act.put, zA, zB, zC, i64_w, i32_w]
             rfl
            refine one_ (i := 14) (N := some 59) #[tt, tt, tt, tt, tt, tt, tt, tt, tt, tt, tt, tt, tt, tt, tt, ff, ff, ff, ff, ff, ff, ff, ff, ff, ff, ff, ff] rfl rfl (one_of HT_.out (by kernel_rfl)) (by decide) (fun K hK => ?_)
            refine goes_ Try.func20 (by kernel_rfl) rfl #[.slice Ao54 y504.length co54, .slice Ao10 t472.length co10] (by rfl) rfl rfl (by (try simp only [List.map_toArray, List.map_cons, List.map_nil]); first | done | rfl | (simp only [List.length_drop, List.length_take]; rfl)) ?_
            with_reducible refine (impl_RowMany.calls k1 _ _ y504 _ _ t472 t507 _ ?side1 ?side2 ?side3 ?side4 A24.out).mono ?_
            (case side1 => repeat (first | exact (Kd.N_reads' HO506.out).2.2 | (with_reducible refine zQ ?_ _) | (with_reducible refine zO ?_ _) | (with_reducible refine zP ?_)))
            (case side2 => exact (Kd.N_reads' HO506.out).2.1)
            (case side3 => repeat (first | exact (Kd.R_reads' HO_4.out).2.2 | (with_reducible refine zQ ?_ _) | (with_reducible refine zO ?_ _) | (with_reducible refine zP ?_)))
            (case side4 => exact (Kd.R_reads' HO_4.out).2.1)
            rintro e w' ⟨rfl, ⟨nd, rfl⟩⟩
            refine ⟨_, rfl, ?_⟩
            refine hK.out _ _ trivial (fun hHeld => ?_)
            clear hK K
            refine norm_ (a' := ?_) ?_ ?_
            rotate_left
            ·
             show Act.put _ (some 59) _ = _
             simp only [Act.put, zA, zB, zC, i64_w, i32_w]
             rfl
            refine pure_ (i := 15) (N := some 60) (v := ?_) (a' := ?_) #[tt, tt, tt, tt, tt, tt, tt, tt, tt, tt, tt, tt, tt, tt, tt, tt, ff, ff, ff, ff, ff, ff, ff, ff, ff, ff, ff] rfl rfl (any_of HT_.out (by kernel_rfl)) (fun _ _ _ h => h) (Or.inl ⟨by rfl, ?_⟩) ?_ ?_
            rotate_left
            ·
             intro w'
             go_simp
             with_reducible rfl
            rotate_left
            ·
             simp only [Act.put, zA, zB, zC, i64_w, i32_w]
             rfl
            refine pure_ (i := 16) (N := some 61) (v := ?_) (a' := ?_) #[tt, tt, tt, tt, tt, tt, tt, tt, tt, tt, tt, tt, tt, tt, tt, tt, tt, ff, ff, ff, ff, ff, ff, ff, ff, ff, ff] rfl rfl (any_of HT_.out (by kernel_rfl)) (fun _ _ _ h => h) (Or.inl ⟨by rfl, ?_⟩) ?_ ?_
            rotate_left
            ·
             intro w'
             go_simp
             with_reducible rfl
            rotate_left
            ·
             simp only [Act.put, zA, zB, zC, i64_w, i32_w]
             rfl
            refine pure_ (i := 17) (N := some 62) (v := ?_) (a' := ?_) #[tt, tt, tt, tt, tt, tt, tt, tt, tt, tt, tt, tt, tt, tt, tt, tt, tt, tt, ff, ff, ff, ff, ff, ff, ff, ff, ff] rfl rfl (any_of HT_.out (by kernel_rfl)) (fun _ _ _ h => h) (Or.inl ⟨by rfl, ?_⟩) ?_ ?_
            rotate_left
            ·
             intro w'
             go_simp
             with_reducible rfl
            rotate_left
            ·
             simp only [Act.put, zA, zB, zC, i64_w, i32_w]
             rfl
            refine pure_ (i := 18) (N := some 63) (v := ?_) (a' := ?_) #[tt, tt, tt, tt, tt, tt, tt, tt, tt, tt, tt, tt, tt, tt, tt, tt, tt, tt, tt, ff, ff, ff, ff, ff, ff, ff, ff] rfl rfl (any_of HT_.out (by kernel_rfl)) (fun _ _ _ h => h) (Or.inl ⟨by rfl, ?_⟩) ?_ ?_
            rotate_left
            ·
             intro w'
             go_simp
             with_reducible rfl
            rotate_left
            ·
             simp only [Act.put, zA, zB, zC, i64_w, i32_w]
             rfl
            refine pure_ (i := 19) (N := some 64) (v := ?_) (a' := ?_) #[tt, tt, tt, tt, tt, tt, tt, tt, tt, tt, tt, tt, tt, tt, tt, tt, tt, tt, tt, tt, ff, ff, ff, ff, ff, ff, ff] rfl rfl (any_of HT_.out (by kernel_rfl)) (fun _ _ _ h => h) (Or.inl ⟨by rfl, ?_⟩) ?_ ?_
            rotate_left
            ·
             intro w'
             go_simp
             with_reducible rfl
            rotate_left
            ·
             simp only [Act.put, zA, zB, zC, i64_w, i32_w]
             rfl
            refine pure_ (i := 20) (N := some 65) (v := ?_) (a' := ?_) #[tt, tt, tt, tt, tt, tt, tt, tt, tt, tt, tt, tt, tt, tt, tt, tt, tt, tt, tt, tt, tt, ff, ff, ff, ff, ff, ff] rfl rfl (any_of HT_.out (by kernel_rfl)) (fun _ _ _ h => h) (Or.inl ⟨by rfl, ?_⟩) ?_ ?_
            rotate_left
            ·
             intro w'
             go_simp
             with_reducible rfl
            rotate_left
            ·
             simp only [Act.put, zA, zB, zC, i64_w, i32_w]
             rfl
            refine pure_ (i := 21) (N := some 66) (v := ?_) (a' := ?_) #[tt, tt, tt, tt, tt, tt, tt, tt, tt, tt, tt, tt, tt, tt, tt, tt, tt, tt, tt, tt, tt, tt, ff, ff, ff, ff, ff] rfl rfl (any_of HT_.out (by kernel_rfl)) (fun _ _ _ h => h) (Or.inl ⟨by rfl, ?_⟩) ?_ ?_
            rotate_left
            ·
             intro w'
             go_simp
             with_reducible rfl
            rotate_left
            ·
             simp only [Act.put, zA, zB, zC, i64_w, i32_w]
             rfl
            refine pure_ (i := 22) (N := some 67) (v := ?_) (a' := ?_) #[tt, tt, tt, tt, tt, tt, tt, tt, tt, tt, tt, tt, tt, tt, tt, tt, tt, tt, tt, tt, tt, tt, tt, ff, ff, ff, ff] rfl rfl (any_of HT_.out (by kernel_rfl)) (fun _ _ _ h => h) (Or.inl ⟨by rfl, ?_⟩) ?_ ?_
            rotate_left
            ·
             intro w'
             go_simp
             with_reducible rfl
            rotate_left
            ·
             simp only [Act.put, zA, zB, zC, i64_w, i32_w]
             rfl
            refine pure_ (i := 23) (N := some 68) (v := ?_) (a' := ?_) #[tt, tt, tt, tt, tt, tt, tt, tt, tt, tt, tt, tt, tt, tt, tt, tt, tt, tt, tt, tt, tt, tt, tt, tt, ff, ff, ff] rfl rfl (any_of HT_.out (by kernel_rfl)) (fun _ _ _ h => h) (Or.inl ⟨by rfl, ?_⟩) ?_ ?_
            rotate_left
            ·
             intro w'
             go_simp
             with_reducible rfl
            rotate_left
            ·
             simp only [Act.put, zA, zB, zC, i64_w, i32_w]
             rfl
            refine pure_ (i := 24) (N := some 69) (v := undef) (a' := ?_) #[tt, tt, tt, tt, tt, tt, tt, tt, tt, tt, tt, tt, tt, tt, tt, tt, tt, tt, tt, tt, tt, tt, tt, tt, tt, ff, ff] rfl rfl (any_of HT_.out (by kernel_rfl)) (fun _ _ _ h => h) (Or.inr ⟨by rfl, rfl⟩) ?_ ?_
            rotate_left
            ·
             simp only [Act.put, zA, zB, zC, i64_w, i32_w]
             rfl
            refine pure_ (i := 25) (N := some 70) (v := ?_) (a' := ?_) #[tt, tt, tt, tt, tt, tt, tt, tt, tt, tt, tt, tt, tt, tt, tt, tt, tt, tt, tt, tt, tt, tt, tt, tt, tt, tt, ff] rfl rfl (any_of HT_.out (by kernel_rfl)) (fun _ _ _ h => h) (Or.inl ⟨by rfl, ?_⟩) ?_ ?_
            rotate_left
            ·
             intro w'
             go_simp
             with_reducible rfl
            rotate_left
            ·
             simp only [Act.put, zA, zB, zC, i64_w, i32_w]
             rfl
            refine pure_ (i := 26) (N := some 2) (v := ?_) (a' := ?_) #[tt, tt, tt, tt, tt, tt, tt, tt, tt, tt, tt, tt, tt, tt, tt, tt, tt, tt, tt, tt, tt, tt, tt, tt, tt, tt, tt] rfl rfl (any_of HT_.out (by kernel_rfl)) (fun _ _ _ h => h) (Or.inl ⟨by rfl, ?_⟩) ?_ ?_
            rotate_left
            ·
             intro w'
             go_simp
             with_reducible rfl
            rotate_left
            ·
             simp only [Act.put, zA, zB, zC, i64_w, i32_w]
             rfl
            refine done_ (done_of HT_.out (by kernel_rfl)) ?_
            try go_wp2
            go_ret
            exact ⟨by first | rfl | (simp [errW_none, errW_some] <;> rfl) | (simp only [← hji16]; first | rfl | (simp [errW_none, errW_some] <;> rfl)) | (simp [*, errW_none, errW_some] <;> rfl), by repeat (first | (with_reducible first | exact HB.out | apply zU | apply zV | apply zW) | exact HB.out)⟩
          ·
           rw [if_neg c25] at H
           have c25b0 : (t477 == (wrap64 (t495 + t507))) = false := beq_eq_false_iff_ne.mpr c25
           have c25b1 : (t477 != (wrap64 (t495 + t507))) = true := bne_iff_ne.mpr c25
           obtain rfl := Option.some.inj H
           obtain ⟨Ao55, co55, eo55⟩ := Kd.N_slice HO_7.out
           subst eo55
           try go_wp2
           have n0_ := zM (Kd.N_drew HO_3.out)
           have n1_ := zM (zT HO_4.out)
           have n2_ := zM (Kd.N_drew HO_7.out)
           have n3_ := zM (zW HB.out)
           clear HO_3
           clear HO_4
           clear HO_7
           clear HB
           have HO_3 := n0_
           have HO_4 := n1_
           have HO_7 := n2_
           have HB := n3_
           clear n0_ n1_ n2_ n3_
           have q57 : ((ji16) : Int) ≤ ((t471.length : Int) : Int) := zL (by assumption)
           obtain ⟨i057, hi057, _, hsz57, _⟩ := info_parts info39
           have hroom57 : t471.length ≤ co9 := (Kd.N_reads' HO_3.out).2.1
           have hC57 : Kd.F (Kd.slice 83 k83) _ _ Ao9 t471.length t471 := (Kd.V_at (base := w.heap.size) (Kd.N_V HO_3.out)).2.2
           have hcut57 := cut_to (P := Try.prog) 38 39 .i64 Try.underlying38 hi057 Ao9 t471.length co9 (ji16) (zL (by assumption)) q57 hroom57
           have hr57 := Kd.F_take (m := ((ji16) : Int).toNat) hC57 (by omega)
           have hy57 : y487.length = ((ji16) : Int).toNat := (by rw [Ny487.out, List.length_take]; omega)
           rw [← Ny487.out] at hr57
           rw [← hy57] at hcut57
           have HO491 := zM (show Kd.V (Kd.slice 83 k83) 39 _ w.heap.size _ (.slice Ao9 y487.length co9) y487 from Kd.V_mk (by omega) hr57)
           have HC491 := zM (show y487.length ≤ co9 from by omega)
           clear hr57 hC57 hroom57 hi057 hsz57
           have KY57 := zM hy57
           clear hy57
           replace q57 := eq_true q57
           have q58 : ((ji16) : Int) ≤ ((t471.length : Int) : Int) := zL (by assumption)
           obtain ⟨i058, hi058, _, hsz58, _⟩ := info_parts info39
           have hroom58 : t471.length ≤ co9 := (Kd.N_reads' HO_3.out).2.1
           have hC58 : Kd.F (Kd.slice 83 k83) _ _ Ao9 t471.length t471 := (Kd.V_at (base := w.heap.size) (Kd.N_V HO_3.out)).2.2
           have q058 : (0 : Int) ≤ ((ji16) : Int) := zL (by assumption)
           have hcut58 := cut_from (P := Try.prog) 38 39 .i64 Try.underlying38 hi058 1 hsz58 Ao9 t471.length co9 (ji16) q058 q58
           have hr58 := Kd.F_cut (m := ((ji16) : Int).toNat) (c := co9) hC58 (by omega) hroom58
           obtain ⟨A58, hA58⟩ : ∃ A1, A1 = (if co9 = ((ji16) : Int).toNat then Ao9 else (Ao9 : Option Addr).map (·.add (((ji16) : Int).toNat * 1))) := ⟨_, rfl⟩
           obtain ⟨c58, hc58⟩ : ∃ c1, c1 = co9 - ((ji16) : Int).toNat := ⟨_, rfl⟩
           have hy58 : y499.length = t471.length - ((ji16) : Int).toNat := (by rw [Ny499.out, List.length_drop] <;> omega)
           rw [show (t471).drop ((ji16) : Int).toNat = y499 from Ny499.out.symm] at hr58
           replace hr58 : Kd.F (Kd.slice 83 k83) _ _ A58 y499.length y499 := (by rw [hA58]; exact hr58)
           rw [← hy58, ← hA58, ← hc58] at hcut58
           have HO503 := zM (show Kd.V (Kd.slice 83 k83) 39 _ w.heap.size _ (.slice A58 y499.length c58) y499 from Kd.V_mk (by rw [hy58, hc58]; exact Nat.sub_le_sub_right hroom58 _) hr58)
           have HC503 := zM (show y499.length ≤ c58 from by rw [hy58, hc58]; exact Nat.sub_le_sub_right hroom58 _)
           clear hr58 hC58 hroom58 hi058 hsz58 hc58
           have KY58 := zM hy58
           have KA58 := zM hA58
           clear hy58 hA58
           replace q58 := eq_true q58
           refine start_ (n := 27) (S := fun w' => True) (ds := []) #[ff, ff, ff, ff, ff, ff, ff, ff, ff, ff, ff, ff, ff, ff, ff, ff, ff, ff, ff, ff, ff, ff, ff, ff, ff, ff, ff] (by kernel_rfl) rfl rfl trivial (fun hHeld => ?_); refine with_tabW laws_FnRowMany.tab14 laws_FnRowMany.bits14 (fun HT_ HW_ => ?_)
           generalize wr.drew = w56 at HO_3 HO_4 HO_7 HB HO491 HO503 hHeld ⊢
           refine pure_ (i := 0) (N := some 45) (v := ?_) (a' := ?_) #[tt, ff, ff, ff, ff, ff, ff, ff, ff, ff, ff, ff, ff, ff, ff, ff, ff, ff, ff, ff, ff, ff, ff, ff, ff, ff, ff] rfl rfl (any_of HT_.out (by kernel_rfl)) (fun _ _ _ h => h) (Or.inl ⟨by rfl, ?_⟩) ?_ ?_
           rotate_left
           ·
            intro w'
            go_simp
            with_reducible rfl
           rotate_left
           ·
            simp only [Act.put, zA, zB, zC, i64_w, i32_w]
            rfl
           refine pure_ (i := 2) (N := some 47) (v := ?_) (a' := ?_) #[tt, ff, tt, ff, ff, ff, ff, ff, ff, ff, ff, ff, ff, ff, ff, ff, ff, ff, ff, ff, ff, ff, ff, ff, ff, ff, ff] rfl rfl (any_of HT_.out (by kernel_rfl)) (fun _ _ _ h => h) (Or.inl ⟨by rfl, ?_⟩) ?_ ?_
           rotate_left
           ·
            intro w'
            go_simp
            with_reducible rfl
           rotate_left
           ·
            simp only [Act.put, zA, zB, zC, i64_w, i32_w]
            rfl
           refine pure_ (i := 3) (N := some 48) (v := ?_) (a' := ?_) #[tt, ff, tt, tt, ff, ff, ff, ff, ff, ff, ff, ff, ff, ff, ff, ff, ff, ff, ff, ff, ff, ff, ff, ff, ff, ff, ff] rfl rfl (any_of HT_.out (by kernel_rfl)) (fun _ _ _ h => h) (Or.inl ⟨by rfl, ?_⟩) ?_ ?_
           rotate_left
           ·
            intro w'
            go_simp
            with_reducible rfl
           rotate_left
           ·
            simp only [Act.put, zA, zB, zC, i64_w, i32_w]
            rfl
           refine pure_ (i := 4) (N := some 49) (v := ?_) (a' := ?_) #[tt, ff, tt, tt, tt, ff, ff, ff, ff, ff, ff, ff, ff, ff, ff, ff, ff, ff, ff, ff, ff, ff, ff, ff, ff, ff, ff] rfl rfl (any_of HT_.out (by kernel_rfl)) (fun _ _ _ h => h) (Or.inl ⟨by rfl, ?_⟩) ?_ ?_
           rotate_left
           ·
            intro w'
            go_simp
            with_reducible rfl
           rotate_left
           ·
            simp only [Act.put, zA, zB, zC, i64_w, i32_w]
            rfl
           refine pure_ (i := 6) (N := some 51) (v := ?_) (a' := ?_) #[tt, ff, tt, tt, tt, ff, tt, ff, ff, ff, ff, ff, ff, ff, ff, ff, ff, ff, ff, ff, ff, ff, ff, ff, ff, ff, ff] rfl rfl (any_of HT_.out (by kernel_rfl)) (fun _ _ _ h => h) (Or.inl ⟨by rfl, ?_⟩) ?_ ?_
           rotate_left
           ·
            intro w'
            go_simp
            with_reducible rfl
           rotate_left
           ·
            simp only [Act.put, zA, zB, zC, i64_w, i32_w]
            rfl
           refine pure_ (i := 9) (N := some 54) (v := ?_) (a' := ?_) #[tt, ff, tt, tt, tt, ff, tt, ff, ff, tt, ff, ff, ff, ff, ff, ff, ff, ff, ff, ff, ff, ff, ff, ff, ff, ff, ff] rfl rfl (any_of HT_.out (by kernel_rfl)) (fun _ _ _ h => h) (Or.inl ⟨by rfl, ?_⟩) ?_ ?_
           rotate_left
           ·
            intro w'
            go_simp
            with_reducible rfl
           rotate_left
           ·
            simp only [Act.put, zA, zB, zC, i64_w, i32_w]
            rfl
           refine pure_ (i := 10) (N := some 55) (v := ?_) (a' := ?_) #[tt, ff, tt, tt, tt, ff, tt, ff, ff, tt, tt, ff, ff, ff, ff, ff, ff, ff, ff, ff, ff, ff, ff, ff, ff, ff, ff] rfl rfl (any_of HT_.out (by kernel_rfl)) (fun _ _ _ h => h) (Or.inl ⟨by rfl, ?_⟩) ?_ ?_
           rotate_left
           ·
            intro w'
            go_simp
            with_reducible rfl
           rotate_left
           ·
            simp only [Act.put, zA, zB, zC, i64_w, i32_w]
            rfl
           refine pure_ (i := 11) (N := some 56) (v := ?_) (a' := ?_) #[tt, ff, tt, tt, tt, ff, tt, ff, ff, tt, tt, tt, ff, ff, ff, ff, ff, ff, ff, ff, ff, ff, ff, ff, ff, ff, ff] rfl rfl (any_of HT_.out (by kernel_rfl)) (fun _ _ _ h => h) (Or.inl ⟨by rfl, ?_⟩) ?_ ?_
           rotate_left
           ·
            intro w'
            go_simp
            with_reducible rfl
           rotate_left
           ·
            simp only [Act.put, zA, zB, zC, i64_w, i32_w]
            rfl
           refine pure_ (i := 13) (N := some 58) (v := ?_) (a' := ?_) #[tt, ff, tt, tt, tt, ff, tt, ff, ff, tt, tt, tt, ff, tt, ff, ff, ff, ff, ff, ff, ff, ff, ff, ff, ff, ff, ff] rfl rfl (any_of HT_.out (by kernel_rfl)) (fun _ _ _ h => h) (Or.inl ⟨by rfl, ?_⟩) ?_ ?_
           rotate_left
           ·
            intro w'
            go_simp
            with_reducible rfl
           rotate_left
           ·
            simp only [Act.put, zA, zB, zC, i64_w, i32_w]
            rfl
           refine join_ (σ := Value × Value × Value) 14 #[tt, tt, tt, tt, tt, tt, tt, tt, tt, tt, tt, tt, ff, tt, ff, ff, ff, ff, ff, ff, ff, ff, ff, ff, ff, ff, ff] (fun s_ => [(46, s_.1), (50, s_.2.1), (52, .int .i64 t495), (53, s_.2.2)]) (fun s_ w' => (Kd.V (Kd.slice 83 k83) 39 w' w.heap.size (fun k_ => some k_ ≠ (s_.2.1 : Value).ownBlock ∧ some k_ ≠ (s_.2.2 : Value).ownBlock ∧ some k_ ≠ (.slice Ao10 t472.length co10 : Value).ownBlock ∧ some k_ ≠ (.slice Ao55 t479.length co55 : Value).ownBlock) (.slice Ao9 y487.length co9) y487) ∧ (Kd.N (Kd.slice 83 k83) 39 w' w.heap.size (fun k_ => some k_ ≠ (s_.2.2 : Value).ownBlock ∧ some k_ ≠ (.slice Ao10 t472.length co10 : Value).ownBlock ∧ some k_ ≠ (.slice Ao55 t479.length co55 : Value).ownBlock) s_.2.1 y492) ∧ (Kd.N (Kd.slice 83 k83) 39 w' w.heap.size (fun k_ => some k_ ≠ (s_.2.1 : Value).ownBlock ∧ some k_ ≠ (.slice Ao9 t471.length co9 : Value).ownBlock ∧ some k_ ≠ (.slice Ao10 t472.length co10 : Value).ownBlock ∧ some k_ ≠ (.slice Ao55 t479.length co55 : Value).ownBlock) s_.2.2 y496) ∧ (Kd.V (Kd.slice 83 k83) 39 w' w.heap.size (fun k_ => some k_ ≠ (s_.2.1 : Value).ownBlock ∧ some k_ ≠ (s_.2.2 : Value).ownBlock ∧ some k_ ≠ (.slice Ao10 t472.length co10 : Value).ownBlock ∧ some k_ ≠ (.slice Ao55 t479.length co55 : Value).ownBlock) (.slice A58 y499.length c58) y499) ∧ (Kd.N (Kd.slice 83 k83) 39 w' w.heap.size (fun k_ => some k_ ≠ (s_.2.1 : Value).ownBlock ∧ some k_ ≠ (s_.2.2 : Value).ownBlock ∧ some k_ ≠ (.slice Ao10 t472.length co10 : Value).ownBlock ∧ some k_ ≠ (.slice Ao55 t479.length co55 : Value).ownBlock) (.slice Ao9 t471.length co9) t471) ∧ (Kd.R k83 83 w' w.heap.size (fun _ => True) (.slice Ao10 t472.length co10) t472) ∧ (Kd.N (Kd.slice 83 k83) 39 w' w.heap.size (fun k_ => some k_ ≠ (s_.2.1 : Value).ownBlock ∧ some k_ ≠ (s_.2.2 : Value).ownBlock ∧ some k_ ≠ (.slice Ao10 t472.length co10 : Value).ownBlock) (.slice Ao55 t479.length co55) t479) ∧ (Below w.heap.size w w')) ?_ ?_
           rotate_left
           ·
            intro hCont
            refine two_ (i := 1) (j := 8) (Ni := some 46) (Nj := some 53) #[tt, tt, tt, tt, tt, ff, tt, ff, ff, tt, tt, tt, ff, tt, ff, ff, ff, ff, ff, ff, ff, ff, ff, ff, ff, ff, ff] #[tt, ff, tt, tt, tt, ff, tt, ff, tt, tt, tt, tt, ff, tt, ff, ff, ff, ff, ff, ff, ff, ff, ff, ff, ff, ff, ff] rfl rfl rfl rfl (two_of HT_.out (by kernel_rfl)) (by decide) (by decide) (fun K hK => ?_) (fun K hK => ?_)
            ·
             skip
             refine Kd.N_lit_step (Kd.slice 83 k83) _ 39 ?hg (N' := 46) ?hd (xs := ([] : List (List (S83)))) (inner := []) (ok := (fun k_ => some k_ ≠ (.slice Ao9 t471.length co9 : Value).ownBlock ∧ some k_ ≠ (.slice Ao10 t472.length co10 : Value).ownBlock ∧ some k_ ≠ (.slice Ao55 t479.length co55 : Value).ownBlock)) (okp := (fun k_ => some k_ ≠ (.slice Ao9 t471.length co9 : Value).ownBlock ∧ some k_ ≠ (.slice Ao10 t472.length co10 : Value).ownBlock ∧ some k_ ≠ (.slice Ao55 t479.length co55 : Value).ownBlock)) ?hr ?hp (fun _ hk => hk) ((show ∀ k_, w56.heap.size ≤ k_ → (fun k_ => some k_ ≠ (.slice Ao9 t471.length co9 : Value).ownBlock ∧ some k_ ≠ (.slice Ao10 t472.length co10 : Value).ownBlock ∧ some k_ ≠ (.slice Ao55 t479.length co55 : Value).ownBlock) k_ from fun k_ hk => ⟨Kd.fresh' (Kd.N_lt (by (with_reducible repeat (first | apply Kd.N_alloc | apply Kd.N_drewN | apply Kd.N_drew)); exact HO_3.out)) k_ hk, Kd.fresh' (Kd.R_lt (by (with_reducible repeat (first | apply zR | apply zS | apply zT)); exact HO_4.out)) k_ hk, Kd.fresh' (Kd.N_lt (by (with_reducible repeat (first | apply Kd.N_alloc | apply Kd.N_drewN | apply Kd.N_drew)); exact HO_7.out)) k_ hk⟩) _ (Nat.le_refl _)) (Below.refl _ _) (Nat.le_refl _) (by simp) ?_; (case hd => rfl); (case hg => rfl); (case hr => first | (go_simp; done) | (go_simp; rfl)); (case hp => exact (Reps.none _ _))
             intro v485 w59 ho60 hb hg_ hnew_
             clear hg_ hnew_
             (first | rw [← Ny484.out] at ho60 | (simp only [Int.reduceToNat] at ho60; rw [← Ny484.out] at ho60))
             have n0_ := zM (Kd.N_elder' (by (with_reducible repeat (first | apply Kd.N_alloc | apply Kd.N_drewN | apply Kd.N_drew)); exact HO_3.out) (Kd.N_base ho60) hb)
             have n1_ := zM (Kd.R_below (by (with_reducible repeat (first | apply zR | apply zS | apply zT)); exact HO_4.out) hb)
             have n2_ := zM (Kd.N_elder' (by (with_reducible repeat (first | apply Kd.N_alloc | apply Kd.N_drewN | apply Kd.N_drew)); exact HO_7.out) (Kd.N_base ho60) hb)
             have n3_ := zM (Kd.V_elder' (by (with_reducible repeat (first | apply Kd.V_alloc | apply Kd.V_drewN | apply Kd.V_drew)); exact HO491.out) (Kd.N_base ho60) hb)
             have n4_ := zM (Kd.V_elder' (by (with_reducible repeat (first | apply Kd.V_alloc | apply Kd.V_drewN | apply Kd.V_drew)); exact HO503.out) (Kd.N_base ho60) hb)
             have n5_ := zM (Kd.N_lower ho60 (zI (by repeat (first | (with_reducible first | exact HB.out | apply zU | apply zV | apply zW) | exact HB.out))))
             have n6_ := zM (zG (by repeat (first | (with_reducible first | exact HB.out | apply zU | apply zV | apply zW) | exact HB.out)) hb)
             clear HO_3
             clear HO_4
             clear HO_7
             clear HO491
             clear HO503
             clear HB
             have HO_3 := n0_
             have HO_4 := n1_
             have HO_7 := n2_
             have HO491 := n3_
             have HO503 := n4_
             have HO486 := n5_
             have HB := n6_
             clear n0_ n1_ n2_ n3_ n4_ n5_ n6_
             clear hb ho60
             refine hK.out _ _ trivial (fun hHeld => ?_)
             clear hK K
             refine norm_ (a' := ?_) ?_ ?_
             rotate_left
             ·
              show Act.put _ (some 46) _ = _
              simp only [Act.put, zA, zB, zC, i64_w, i32_w]
              rfl
             refine two_ (i := 5) (j := 8) (Ni := some 50) (Nj := some 53) #[tt, tt, tt, tt, tt, tt, tt, ff, ff, tt, tt, tt, ff, tt, ff, ff, ff, ff, ff, ff, ff, ff, ff, ff, ff, ff, ff] #[tt, tt, tt, tt, tt, ff, tt, ff, tt, tt, tt, tt, ff, tt, ff, ff, ff, ff, ff, ff, ff, ff, ff, ff, ff, ff, ff] rfl rfl rfl rfl (two_of HT_.out (by kernel_rfl)) (by decide) (by decide) (fun K hK => ?_) (fun K hK => ?_)
             ·
              skip
              refine Kd.N_append_rows_step (Kd.slice 83 k83) (w0 := w) w.heap.size (by rfl) (.tmp 46) (.tmp 49) 38 39 (.slice none 0 0) 24 rfl Try.underlying38 info39 rfl (by decide) (by omega) v485 y484 y487 _ _ _ (fun k_ => some k_ ≠ (.slice Ao10 t472.length co10 : Value).ownBlock ∧ some k_ ≠ (.slice Ao55 t479.length co55 : Value).ownBlock) (fun k_ => ((fun k_ => some k_ ≠ (.slice Ao10 t472.length co10 : Value).ownBlock ∧ some k_ ≠ (.slice Ao55 t479.length co55 : Value).ownBlock)) k_ ∧ some k_ ≠ (v485 : Value).ownBlock) rfl rfl ?aO ?aR (fun _ hk => hk) ?aF ?aB ?aS ?aL ?_
              (case aR => exact (by skip; exact Kd.V_F (Kd.V_mono (ok' := (fun k_ => ((fun k_ => some k_ ≠ (.slice Ao10 t472.length co10 : Value).ownBlock ∧ some k_ ≠ (.slice Ao55 t479.length co55 : Value).ownBlock)) k_ ∧ some k_ ≠ (v485 : Value).ownBlock)) (HO491.out) (fun k_ hk => ⟨⟨hk.1.1, hk.1.2⟩, hk.2⟩))))
              (case aB => exact (by repeat (first | (with_reducible first | exact HB.out | apply zU | apply zV | apply zW) | exact HB.out)))
              (case aF => exact (fun k_ hk => ⟨Kd.fresh' (Kd.R_lt (by (with_reducible repeat (first | apply zR | apply zS | apply zT)); exact HO_4.out)) k_ hk, Kd.fresh' (Kd.N_lt (by (with_reducible repeat (first | apply Kd.N_alloc | apply Kd.N_drewN | apply Kd.N_drew)); exact HO_7.out)) k_ hk⟩))
              (case aO => exact (by (with_reducible repeat (first | apply Kd.N_alloc | apply Kd.N_drewN | apply Kd.N_drew)); exact Kd.N_mono HO486.out (fun _ hk => ⟨hk.2.1, hk.2.2⟩)))
              (case aS => exact (zI (by repeat (first | (with_reducible first | exact HB.out | apply zU | apply zV | apply zW) | exact HB.out))))
              (case aL => have := LMc19.out; omega)
              intro v493 w61 ho hb hg hat
              rw [← Ny492.out] at ho
              have n0_ := zM (Kd.N_afterv (ok := (fun k_ => some k_ ≠ (.slice Ao10 t472.length co10 : Value).ownBlock ∧ some k_ ≠ (.slice Ao55 t479.length co55 : Value).ownBlock)) (by (with_reducible repeat (first | apply Kd.N_alloc | apply Kd.N_drewN | apply Kd.N_drew)); exact HO_3.out) hg hat)
              have n1_ := zM (Kd.R_over' (by (with_reducible repeat (first | apply zR | apply zS | apply zT)); exact HO_4.out) (Kd.N_typed (by (with_reducible repeat (first | apply Kd.N_alloc | apply Kd.N_drewN | apply Kd.N_drew)); exact HO486.out)) (by decide) hg)
              have n2_ := zM (Kd.N_afterv (ok := (fun k_ => some k_ ≠ (.slice Ao10 t472.length co10 : Value).ownBlock)) (by (with_reducible repeat (first | apply Kd.N_alloc | apply Kd.N_drewN | apply Kd.N_drew)); exact HO_7.out) hg hat)
              have n3_ := zM (Kd.V_afterv (ok := (fun k_ => some k_ ≠ (.slice Ao10 t472.length co10 : Value).ownBlock ∧ some k_ ≠ (.slice Ao55 t479.length co55 : Value).ownBlock)) (by (with_reducible repeat (first | apply Kd.V_alloc | apply Kd.V_drewN | apply Kd.V_drew)); exact HO491.out) hg hat)
              have n4_ := zM (Kd.V_afterv (ok := (fun k_ => some k_ ≠ (.slice Ao10 t472.length co10 : Value).ownBlock ∧ some k_ ≠ (.slice Ao55 t479.length co55 : Value).ownBlock)) (by (with_reducible repeat (first | apply Kd.V_alloc | apply Kd.V_drewN | apply Kd.V_drew)); exact HO503.out) hg hat)
              have n5_ := zM (hb)
              have n6_ := zM (ho)
              clear HO_3
              clear HO_4
              clear HO_7
              clear HO491
              clear HO503
              clear HB
              clear HO486
              have HO_3 := n0_
              have HO_4 := n1_
              have HO_7 := n2_
              have HO491 := n3_
              have HO503 := n4_
              have HB := n5_
              have HO494 := n6_
              clear n0_ n1_ n2_ n3_ n4_ n5_ n6_
              clear ho hb hg hat
              obtain ⟨Ao62, co62, eo62⟩ := Kd.N_slice HO494.out
              (first | subst eo62 | (injection eo62 with f1_ f2_ f3_; have f4_ := f1_.symm; have f5_ := f3_.symm; clear f1_ f2_ f3_; subst f4_; subst f5_))
              refine hK.out _ _ trivial (fun hHeld => ?_)
              clear hK K
              refine norm_ (a' := ?_) ?_ ?_
              rotate_left
              ·
               show Act.put _ (some 50) _ = _
               simp only [Act.put, zA, zB, zC, i64_w, i32_w]
               rfl
              refine two_ (i := 7) (j := 8) (Ni := some 52) (Nj := some 53) #[tt, tt, tt, tt, tt, tt, tt, tt, ff, tt, tt, tt, ff, tt, ff, ff, ff, ff, ff, ff, ff, ff, ff, ff, ff, ff, ff] #[tt, tt, tt, tt, tt, tt, tt, ff, tt, tt, tt, tt, ff, tt, ff, ff, ff, ff, ff, ff, ff, ff, ff, ff, ff, ff, ff] rfl rfl rfl rfl (two_of HT_.out (by kernel_rfl)) (by decide) (by decide) (fun K hK => ?_) (fun K hK => ?_)
              ·
               skip
               refine goes_ Try.func20 (by kernel_rfl) rfl #[.slice Ao62 y492.length co62, .slice Ao10 t472.length co10] (by rfl) rfl rfl (by (try simp only [List.map_toArray, List.map_cons, List.map_nil]); first | done | rfl | (simp only [List.length_drop, List.length_take]; rfl)) ?_
               with_reducible refine (impl_RowMany.calls k1 _ _ y492 _ _ t472 t495 _ ?side1 ?side2 ?side3 ?side4 A20.out).mono ?_
               (case side1 => repeat (first | exact (Kd.N_reads' HO494.out).2.2 | (with_reducible refine zQ ?_ _) | (with_reducible refine zO ?_ _) | (with_reducible refine zP ?_)))
               (case side2 => exact (Kd.N_reads' HO494.out).2.1)
               (case side3 => repeat (first | exact (Kd.R_reads' HO_4.out).2.2 | (with_reducible refine zQ ?_ _) | (with_reducible refine zO ?_ _) | (with_reducible refine zP ?_)))
               (case side4 => exact (Kd.R_reads' HO_4.out).2.1)
               rintro e w' ⟨rfl, ⟨nd, rfl⟩⟩
               refine ⟨_, rfl, ?_⟩
               refine hK.out _ _ trivial (fun hHeld => ?_)
               clear hK K
               refine norm_ (a' := ?_) ?_ ?_
               rotate_left
               ·
                show Act.put _ (some 52) _ = _
                simp only [Act.put, zA, zB, zC, i64_w, i32_w]
                rfl
               refine one_ (i := 8) (N := some 53) #[tt, tt, tt, tt, tt, tt, tt, tt, tt, tt, tt, tt, ff, tt, ff, ff, ff, ff, ff, ff, ff, ff, ff, ff, ff, ff, ff] rfl rfl (one_of HT_.out (by kernel_rfl)) (by decide) (fun K hK => ?_)
               refine Kd.N_lit_step (Kd.slice 83 k83) _ 39 ?hg (N' := 53) ?hd (xs := ([] : List (List (S83)))) (inner := []) (ok := (fun k_ => some k_ ≠ (.slice Ao9 t471.length co9 : Value).ownBlock ∧ some k_ ≠ (.slice Ao10 t472.length co10 : Value).ownBlock ∧ some k_ ≠ (.slice Ao55 t479.length co55 : Value).ownBlock ∧ some k_ ≠ (.slice Ao62 y492.length co62 : Value).ownBlock)) (okp := (fun k_ => some k_ ≠ (.slice Ao9 t471.length co9 : Value).ownBlock ∧ some k_ ≠ (.slice Ao10 t472.length co10 : Value).ownBlock ∧ some k_ ≠ (.slice Ao55 t479.length co55 : Value).ownBlock ∧ some k_ ≠ (.slice Ao62 y492.length co62 : Value).ownBlock)) ?hr ?hp (fun _ hk => hk) ((show ∀ k_, w61.heap.size ≤ k_ → (fun k_ => some k_ ≠ (.slice Ao9 t471.length co9 : Value).ownBlock ∧ some k_ ≠ (.slice Ao10 t472.length co10 : Value).ownBlock ∧ some k_ ≠ (.slice Ao55 t479.length co55 : Value).ownBlock ∧ some k_ ≠ (.slice Ao62 y492.length co62 : Value).ownBlock) k_ from fun k_ hk => ⟨Kd.fresh' (Kd.N_lt (by (with_reducible repeat (first | apply Kd.N_alloc | apply Kd.N_drewN | apply Kd.N_drew)); exact HO_3.out)) k_ hk, Kd.fresh' (Kd.R_lt (by (with_reducible repeat (first | apply zR | apply zS | apply zT)); exact HO_4.out)) k_ hk, Kd.fresh' (Kd.N_lt (by (with_reducible repeat (first | apply Kd.N_alloc | apply Kd.N_drewN | apply Kd.N_drew)); exact HO_7.out)) k_ hk, Kd.fresh' (Kd.N_lt (by (with_reducible repeat (first | apply Kd.N_alloc | apply Kd.N_drewN | apply Kd.N_drew)); exact HO494.out)) k_ hk⟩) _ (Nat.le_refl _)) (Below.refl _ _) (Nat.le_refl _) (by simp) ?_; (case hd => rfl); (case hg => rfl); (case hr => first | (go_simp; done) | (go_simp; rfl)); (case hp => exact (Reps.none _ _))
               intro v497 w63 ho64 hb hg_ hnew_
               clear hg_ hnew_
               (first | rw [← Ny496.out] at ho64 | (simp only [Int.reduceToNat] at ho64; rw [← Ny496.out] at ho64))
               have n0_ := zM (Kd.N_elder' (by (with_reducible repeat (first | apply Kd.N_alloc | apply Kd.N_drewN | apply Kd.N_drew)); exact HO_3.out) (Kd.N_base ho64) hb)
               have n1_ := zM (Kd.R_below (by (with_reducible repeat (first | apply zR | apply zS | apply zT)); exact HO_4.out) hb)
               have n2_ := zM (Kd.N_elder' (by (with_reducible repeat (first | apply Kd.N_alloc | apply Kd.N_drewN | apply Kd.N_drew)); exact HO_7.out) (Kd.N_base ho64) hb)
               have n3_ := zM (Kd.V_elder' (by (with_reducible repeat (first | apply Kd.V_alloc | apply Kd.V_drewN | apply Kd.V_drew)); exact HO491.out) (Kd.N_base ho64) hb)
               have n4_ := zM (Kd.V_elder' (by (with_reducible repeat (first | apply Kd.V_alloc | apply Kd.V_drewN | apply Kd.V_drew)); exact HO503.out) (Kd.N_base ho64) hb)
               have n5_ := zM (Kd.N_elder' (by (with_reducible repeat (first | apply Kd.N_alloc | apply Kd.N_drewN | apply Kd.N_drew)); exact HO494.out) (Kd.N_base ho64) hb)
               have n6_ := zM (Kd.N_lower ho64 (zI (by repeat (first | (with_reducible first | exact HB.out | apply zU | apply zV | apply zW) | exact HB.out))))
               have n7_ := zM (zG (by repeat (first | (with_reducible first | exact HB.out | apply zU | apply zV | apply zW) | exact HB.out)) hb)
               clear HO_3
               clear HO_4
               clear HO_7
               clear HO491
               clear HO503
               clear HO494
               clear HB
               have HO_3 := n0_
               have HO_4 := n1_
               have HO_7 := n2_
               have HO491 := n3_
               have HO503 := n4_
               have HO494 := n5_
               have HO498 := n6_
               have HB := n7_
               clear n0_ n1_ n2_ n3_ n4_ n5_ n6_ n7_
               clear hb ho64
               refine hK.out _ _ trivial (fun hHeld => ?_)
               clear hK K
               refine norm_ (a' := ?_) ?_ ?_
               rotate_left
               ·
                show Act.put _ (some 53) _ = _
                simp only [Act.put, zA, zB, zC, i64_w, i32_w]
                rfl
               exact norm_ (by simp only [putAll, Act.put, zA, zB, zC]) (hCont (v485, .slice Ao62 y492.length co62, v497) _ ⟨(by (with_reducible repeat (first | apply Kd.V_alloc | apply Kd.V_drewN | apply Kd.V_drew)); exact Kd.V_mono HO491.out (fun _ hk => ⟨hk.1.2, ⟨hk.2, ⟨hk.1.1.1, hk.1.1.2⟩⟩⟩)), (by (with_reducible repeat (first | apply Kd.N_alloc | apply Kd.N_drewN | apply Kd.N_drew)); exact Kd.N_mono HO494.out (fun _ hk => ⟨hk.2, ⟨hk.1.1, hk.1.2⟩⟩)), (by (with_reducible repeat (first | apply Kd.N_alloc | apply Kd.N_drewN | apply Kd.N_drew)); exact Kd.N_mono HO498.out (fun _ hk => ⟨hk.2.2.2, ⟨hk.1, ⟨hk.2.1, hk.2.2.1⟩⟩⟩)), (by (with_reducible repeat (first | apply Kd.V_alloc | apply Kd.V_drewN | apply Kd.V_drew)); exact Kd.V_mono HO503.out (fun _ hk => ⟨hk.1.2, ⟨hk.2, ⟨hk.1.1.1, hk.1.1.2⟩⟩⟩)), (by (with_reducible repeat (first | apply Kd.N_alloc | apply Kd.N_drewN | apply Kd.N_drew)); exact Kd.N_mono HO_3.out (fun _ hk => ⟨hk.1.2, ⟨hk.2, ⟨hk.1.1.1, hk.1.1.2⟩⟩⟩)), (by (with_reducible repeat (first | apply zR | apply zS | apply zT)); exact HO_4.out), (by (with_reducible repeat (first | apply Kd.N_alloc | apply Kd.N_drewN | apply Kd.N_drew)); exact Kd.N_mono HO_7.out (fun _ hk => ⟨hk.1.2, ⟨hk.2, hk.1.1⟩⟩)), (by repeat (first | (with_reducible first | exact HB.out | apply zU | apply zV | apply zW) | exact HB.out))⟩)
              ·
               skip
               refine Kd.N_lit_step (Kd.slice 83 k83) _ 39 ?hg (N' := 53) ?hd (xs := ([] : List (List (S83)))) (inner := []) (ok := (fun k_ => some k_ ≠ (.slice Ao9 t471.length co9 : Value).ownBlock ∧ some k_ ≠ (.slice Ao10 t472.length co10 : Value).ownBlock ∧ some k_ ≠ (.slice Ao55 t479.length co55 : Value).ownBlock ∧ some k_ ≠ (.slice Ao62 y492.length co62 : Value).ownBlock)) (okp := (fun k_ => some k_ ≠ (.slice Ao9 t471.length co9 : Value).ownBlock ∧ some k_ ≠ (.slice Ao10 t472.length co10 : Value).ownBlock ∧ some k_ ≠ (.slice Ao55 t479.length co55 : Value).ownBlock ∧ some k_ ≠ (.slice Ao62 y492.length co62 : Value).ownBlock)) ?hr ?hp (fun _ hk => hk) ((show ∀ k_, w61.heap.size ≤ k_ → (fun k_ => some k_ ≠ (.slice Ao9 t471.length co9 : Value).ownBlock ∧ some k_ ≠ (.slice Ao10 t472.length co10 : Value).ownBlock ∧ some k_ ≠ (.slice Ao55 t479.length co55 : Value).ownBlock ∧ some k_ ≠ (.slice Ao62 y492.length co62 : Value).ownBlock) k_ from fun k_ hk => ⟨Kd.fresh' (Kd.N_lt (by (with_reducible repeat (first | apply Kd.N_alloc | apply Kd.N_drewN | apply Kd.N_drew)); exact HO_3.out)) k_ hk, Kd.fresh' (Kd.R_lt (by (with_reducible repeat (first | apply zR | apply zS | apply zT)); exact HO_4.out)) k_ hk, Kd.fresh' (Kd.N_lt (by (with_reducible repeat (first | apply Kd.N_alloc | apply Kd.N_drewN | apply Kd.N_drew)); exact HO_7.out)) k_ hk, Kd.fresh' (Kd.N_lt (by (with_reducible repeat (first | apply Kd.N_alloc | apply Kd.N_drewN | apply Kd.N_drew)); exact HO494.out)) k_ hk⟩) _ (Nat.le_refl _)) (Below.refl _ _) (Nat.le_refl _) (by simp) ?_; (case hd => rfl); (case hg => rfl); (case hr => first | (go_simp; done) | (go_simp; rfl)); (case hp => exact (Reps.none _ _))
               intro v497 w62 ho63 hb hg_ hnew_
               clear hg_ hnew_
               (first | rw [← Ny496.out] at ho63 | (simp only [Int.reduceToNat] at ho63; rw [← Ny496.out] at ho63))
               have n0_ := zM (Kd.N_elder' (by (with_reducible repeat (first | apply Kd.N_alloc | apply Kd.N_drewN | apply Kd.N_drew)); exact HO_3.out) (Kd.N_base ho63) hb)
               have n1_ := zM (Kd.R_below (by (with_reducible repeat (first | apply zR | apply zS | apply zT)); exact HO_4.out) hb)
               have n2_ := zM (Kd.N_elder' (by (with_reducible repeat (first | apply Kd.N_alloc | apply Kd.N_drewN | apply Kd.N_drew)); exact HO_7.out) (Kd.N_base ho63) hb)
               have n3_ := zM (Kd.V_elder' (by (with_reducible repeat (first | apply Kd.V_alloc | apply Kd.V_drewN | apply Kd.V_drew)); exact HO491.out) (Kd.N_base ho63) hb)
               have n4_ := zM (Kd.V_elder' (by (with_reducible repeat (first | apply Kd.V_alloc | apply Kd.V_drewN | apply Kd.V_drew)); exact HO503.out) (Kd.N_base ho63) hb)
               have n5_ := zM (Kd.N_elder' (by (with_reducible repeat (first | apply Kd.N_alloc | apply Kd.N_drewN | apply Kd.N_drew)); exact HO494.out) (Kd.N_base ho63) hb)
               have n6_ := zM (Kd.N_lower ho63 (zI (by repeat (first | (with_reducible first | exact HB.out | apply zU | apply zV | apply zW) | exact HB.out))))
               have n7_ := zM (zG (by repeat (first | (with_reducible first | exact HB.out | apply zU | apply zV | apply zW) | exact HB.out)) hb)
               clear HO_3
               clear HO_4
               clear HO_7
               clear HO491
               clear HO503
               clear HO494
               clear HB
               have HO_3 := n0_
               have HO_4 := n1_
               have HO_7 := n2_
               have HO491 := n3_
               have HO503 := n4_
               have HO494 := n5_
               have HO498 := n6_
               have HB := n7_
               clear n0_ n1_ n2_ n3_ n4_ n5_ n6_ n7_
               clear hb ho63
               obtain ⟨Ao64, co64, eo64⟩ := Kd.N_slice HO494.out
               (first | subst eo64 | (injection eo64 with f1_ f2_ f3_; have f4_ := f1_.symm; have f5_ := f3_.symm; clear f1_ f2_ f3_; subst f4_; subst f5_))
               refine hK.out _ _ trivial (fun hHeld => ?_)
               clear hK K
               refine norm_ (a' := ?_) ?_ ?_
               rotate_left
               ·
                show Act.put _ (some 53) _ = _
                simp only [Act.put, zA, zB, zC, i64_w, i32_w]
                rfl
               refine one_ (i := 7) (N := some 52) #[tt, tt, tt, tt, tt, tt, tt, tt, tt, tt, tt, tt, ff, tt, ff, ff, ff, ff, ff, ff, ff, ff, ff, ff, ff, ff, ff] rfl rfl (one_of HT_.out (by kernel_rfl)) (by decide) (fun K hK => ?_)
               refine goes_ Try.func20 (by kernel_rfl) rfl #[.slice Ao64 y492.length co64, .slice Ao10 t472.length co10] (by rfl) rfl rfl (by (try simp only [List.map_toArray, List.map_cons, List.map_nil]); first | done | rfl | (simp only [List.length_drop, List.length_take]; rfl)) ?_
               with_reducible refine (impl_RowMany.calls k1 _ _ y492 _ _ t472 t495 _ ?side1 ?side2 ?side3 ?side4 A20.out).mono ?_
               (case side1 => repeat (first | exact (Kd.N_reads' HO494.out).2.2 | (with_reducible refine zQ ?_ _) | (with_reducible refine zO ?_ _) | (with_reducible refine zP ?_)))
               (case side2 => exact (Kd.N_reads' HO494.out).2.1)
               (case side3 => repeat (first | exact (Kd.R_reads' HO_4.out).2.2 | (with_reducible refine zQ ?_ _) | (with_reducible refine zO ?_ _) | (with_reducible refine zP ?_)))
               (case side4 => exact (Kd.R_reads' HO_4.out).2.1)
               rintro e w' ⟨rfl, ⟨nd, rfl⟩⟩
               refine ⟨_, rfl, ?_⟩
               refine hK.out _ _ trivial (fun hHeld => ?_)
               clear hK K
               refine norm_ (a' := ?_) ?_ ?_
               rotate_left
               ·
                show Act.put _ (some 52) _ = _
                simp only [Act.put, zA, zB, zC, i64_w, i32_w]
                rfl
               exact norm_ (by simp only [putAll, Act.put, zA, zB, zC]) (hCont (v485, .slice Ao64 y492.length co64, v497) _ ⟨(by (with_reducible repeat (first | apply Kd.V_alloc | apply Kd.V_drewN | apply Kd.V_drew)); exact Kd.V_mono HO491.out (fun _ hk => ⟨hk.1.2, ⟨hk.2, ⟨hk.1.1.1, hk.1.1.2⟩⟩⟩)), (by (with_reducible repeat (first | apply Kd.N_alloc | apply Kd.N_drewN | apply Kd.N_drew)); exact Kd.N_mono HO494.out (fun _ hk => ⟨hk.2, ⟨hk.1.1, hk.1.2⟩⟩)), (by (with_reducible repeat (first | apply Kd.N_alloc | apply Kd.N_drewN | apply Kd.N_drew)); exact Kd.N_mono HO498.out (fun _ hk => ⟨hk.2.2.2, ⟨hk.1, ⟨hk.2.1, hk.2.2.1⟩⟩⟩)), (by (with_reducible repeat (first | apply Kd.V_alloc | apply Kd.V_drewN | apply Kd.V_drew)); exact Kd.V_mono HO503.out (fun _ hk => ⟨hk.1.2, ⟨hk.2, ⟨hk.1.1.1, hk.1.1.2⟩⟩⟩)), (by (with_reducible repeat (first | apply Kd.N_alloc | apply Kd.N_drewN | apply Kd.N_drew)); exact Kd.N_mono HO_3.out (fun _ hk => ⟨hk.1.2, ⟨hk.2, ⟨hk.1.1.1, hk.1.1.2⟩⟩⟩)), (by (with_reducible repeat (first | apply zR | apply zS | apply zT)); exact HO_4.out), (by (with_reducible repeat (first | apply Kd.N_alloc | apply Kd.N_drewN | apply Kd.N_drew)); exact Kd.N_mono HO_7.out (fun _ hk => ⟨hk.1.2, ⟨hk.2, hk.1.1⟩⟩)), (by repeat (first | (with_reducible first | exact HB.out | apply zU | apply zV | apply zW) | exact HB.out))⟩)
             ·
              skip
              refine Kd.N_lit_step (Kd.slice 83 k83) _ 39 ?hg (N' := 53) ?hd (xs := ([] : List (List (S83)))) (inner := []) (ok := (fun k_ => some k_ ≠ (.slice Ao9 t471.length co9 : Value).ownBlock ∧ some k_ ≠ (.slice Ao10 t472.length co10 : Value).ownBlock ∧ some k_ ≠ (.slice Ao55 t479.length co55 : Value).ownBlock ∧ some k_ ≠ (v485 : Value).ownBlock)) (okp := (fun k_ => some k_ ≠ (.slice Ao9 t471.length co9 : Value).ownBlock ∧ some k_ ≠ (.slice Ao10 t472.length co10 : Value).ownBlock ∧ some k_ ≠ (.slice Ao55 t479.length co55 : Value).ownBlock ∧ some k_ ≠ (v485 : Value).ownBlock)) ?hr ?hp (fun _ hk => hk) ((show ∀ k_, w59.heap.size ≤ k_ → (fun k_ => some k_ ≠ (.slice Ao9 t471.length co9 : Value).ownBlock ∧ some k_ ≠ (.slice Ao10 t472.length co10 : Value).ownBlock ∧ some k_ ≠ (.slice Ao55 t479.length co55 : Value).ownBlock ∧ some k_ ≠ (v485 : Value).ownBlock) k_ from fun k_ hk => ⟨Kd.fresh' (Kd.N_lt (by (with_reducible repeat (first | apply Kd.N_alloc | apply Kd.N_drewN | apply Kd.N_drew)); exact HO_3.out)) k_ hk, Kd.fresh' (Kd.R_lt (by (with_reducible repeat (first | apply zR | apply zS | apply zT)); exact HO_4.out)) k_ hk, Kd.fresh' (Kd.N_lt (by (with_reducible repeat (first | apply Kd.N_alloc | apply Kd.N_drewN | apply Kd.N_drew)); exact HO_7.out)) k_ hk, Kd.fresh' (Kd.N_lt (by (with_reducible repeat (first | apply Kd.N_alloc | apply Kd.N_drewN | apply Kd.N_drew)); exact HO486.out)) k_ hk⟩) _ (Nat.le_refl _)) (Below.refl _ _) (Nat.le_refl _) (by simp) ?_; (case hd => rfl); (case hg => rfl); (case hr => first | (go_simp; done) | (go_simp; rfl)); (case hp => exact (Reps.none _ _))
              intro v497 w61 ho62 hb hg_ hnew_
              clear hg_ hnew_
              (first | rw [← Ny496.out] at ho62 | (simp only [Int.reduceToNat] at ho62; rw [← Ny496.out] at ho62))
              have n0_ := zM (Kd.N_elder' (by (with_reducible repeat (first | apply Kd.N_alloc | apply Kd.N_drewN | apply Kd.N_drew)); exact HO_3.out) (Kd.N_base ho62) hb)
              have n1_ := zM (Kd.R_below (by (with_reducible repeat (first | apply zR | apply zS | apply zT)); exact HO_4.out) hb)
              have n2_ := zM (Kd.N_elder' (by (with_reducible repeat (first | apply Kd.N_alloc | apply Kd.N_drewN | apply Kd.N_drew)); exact HO_7.out) (Kd.N_base ho62) hb)
              have n3_ := zM (Kd.V_elder' (by (with_reducible repeat (first | apply Kd.V_alloc | apply Kd.V_drewN | apply Kd.V_drew)); exact HO491.out) (Kd.N_base ho62) hb)
              have n4_ := zM (Kd.V_elder' (by (with_reducible repeat (first | apply Kd.V_alloc | apply Kd.V_drewN | apply Kd.V_drew)); exact HO503.out) (Kd.N_base ho62) hb)
              have n5_ := zM (Kd.N_elder' (by (with_reducible repeat (first | apply Kd.N_alloc | apply Kd.N_drewN | apply Kd.N_drew)); exact HO486.out) (Kd.N_base ho62) hb)
              have n6_ := zM (Kd.N_lower ho62 (zI (by repeat (first | (with_reducible first | exact HB.out | apply zU | apply zV | apply zW) | exact HB.out))))
              have n7_ := zM (zG (by repeat (first | (with_reducible first | exact HB.out | apply zU | apply zV | apply zW) | exact HB.out)) hb)
              clear HO_3
              clear HO_4
              clear HO_7
              clear HO491
              clear HO503
              clear HO486
              clear HB
              have HO_3 := n0_
              have HO_4 := n1_
              have HO_7 := n2_
              have HO491 := n3_
              have HO503 := n4_
              have HO486 := n5_
              have HO498 := n6_
              have HB := n7_
              clear n0_ n1_ n2_ n3_ n4_ n5_ n6_ n7_
              clear hb ho62
              refine hK.out _ _ trivial (fun hHeld => ?_)
              clear hK K
              refine norm_ (a' := ?_) ?_ ?_
              rotate_left
              ·
               show Act.put _ (some 53) _ = _
               simp only [Act.put, zA, zB, zC, i64_w, i32_w]
               rfl
              refine one_ (i := 5) (N := some 50) #[tt, tt, tt, tt, tt, tt, tt, ff, tt, tt, tt, tt, ff, tt, ff, ff, ff, ff, ff, ff, ff, ff, ff, ff, ff, ff, ff] rfl rfl (one_of HT_.out (by kernel_rfl)) (by decide) (fun K hK => ?_)
              refine Kd.N_append_rows_step (Kd.slice 83 k83) (w0 := w) w.heap.size (by rfl) (.tmp 46) (.tmp 49) 38 39 (.slice none 0 0) 24 rfl Try.underlying38 info39 rfl (by decide) (by omega) v485 y484 y487 _ _ _ (fun k_ => some k_ ≠ (.slice Ao10 t472.length co10 : Value).ownBlock ∧ some k_ ≠ (.slice Ao55 t479.length co55 : Value).ownBlock ∧ some k_ ≠ (v497 : Value).ownBlock) (fun k_ => ((fun k_ => some k_ ≠ (.slice Ao10 t472.length co10 : Value).ownBlock ∧ some k_ ≠ (.slice Ao55 t479.length co55 : Value).ownBlock ∧ some k_ ≠ (v497 : Value).ownBlock)) k_ ∧ some k_ ≠ (v485 : Value).ownBlock) rfl rfl ?aO ?aR (fun _ hk => hk) ?aF ?aB ?aS ?aL ?_
              (case aR => exact (by skip; exact Kd.V_F (Kd.V_mono (ok' := (fun k_ => ((fun k_ => some k_ ≠ (.slice Ao10 t472.length co10 : Value).ownBlock ∧ some k_ ≠ (.slice Ao55 t479.length co55 : Value).ownBlock ∧ some k_ ≠ (v497 : Value).ownBlock)) k_ ∧ some k_ ≠ (v485 : Value).ownBlock)) (HO491.out) (fun k_ hk => ⟨⟨hk.1.1.1, ⟨hk.1.1.2, hk.2⟩⟩, hk.1.2⟩))))
              (case aB => exact (by repeat (first | (with_reducible first | exact HB.out | apply zU | apply zV | apply zW) | exact HB.out)))
              (case aF => exact (fun k_ hk => ⟨Kd.fresh' (Kd.R_lt (by (with_reducible repeat (first | apply zR | apply zS | apply zT)); exact HO_4.out)) k_ hk, Kd.fresh' (Kd.N_lt (by (with_reducible repeat (first | apply Kd.N_alloc | apply Kd.N_drewN | apply Kd.N_drew)); exact HO_7.out)) k_ hk, Kd.fresh' (Kd.N_lt (by (with_reducible repeat (first | apply Kd.N_alloc | apply Kd.N_drewN | apply Kd.N_drew)); exact HO498.out)) k_ hk⟩))
              (case aO => exact (by (with_reducible repeat (first | apply Kd.N_alloc | apply Kd.N_drewN | apply Kd.N_drew)); exact Kd.N_mono HO486.out (fun _ hk => ⟨hk.1.2.1, ⟨hk.1.2.2, hk.2⟩⟩)))
              (case aS => exact (zI (by repeat (first | (with_reducible first | exact HB.out | apply zU | apply zV | apply zW) | exact HB.out))))
              (case aL => have := LMc19.out; omega)
              intro v493 w63 ho hb hg hat
              rw [← Ny492.out] at ho
              have n0_ := zM (Kd.N_afterv (ok := (fun k_ => some k_ ≠ (.slice Ao10 t472.length co10 : Value).ownBlock ∧ some k_ ≠ (.slice Ao55 t479.length co55 : Value).ownBlock ∧ some k_ ≠ (v497 : Value).ownBlock)) (by (with_reducible repeat (first | apply Kd.N_alloc | apply Kd.N_drewN | apply Kd.N_drew)); exact Kd.N_mono HO_3.out (fun _ hk => ⟨⟨hk.1.1.1, ⟨hk.1.1.2, hk.2⟩⟩, hk.1.2⟩)) hg hat)
              have n1_ := zM (Kd.R_over' (by (with_reducible repeat (first | apply zR | apply zS | apply zT)); exact HO_4.out) (Kd.N_typed (by (with_reducible repeat (first | apply Kd.N_alloc | apply Kd.N_drewN | apply Kd.N_drew)); exact HO486.out)) (by decide) hg)
              have n2_ := zM (Kd.N_afterv (ok := (fun k_ => some k_ ≠ (.slice Ao10 t472.length co10 : Value).ownBlock ∧ some k_ ≠ (v497 : Value).ownBlock)) (by (with_reducible repeat (first | apply Kd.N_alloc | apply Kd.N_drewN | apply Kd.N_drew)); exact Kd.N_mono HO_7.out (fun _ hk => ⟨⟨hk.1.1, hk.2⟩, hk.1.2⟩)) hg hat)
              have n3_ := zM (Kd.V_afterv (ok := (fun k_ => some k_ ≠ (.slice Ao10 t472.length co10 : Value).ownBlock ∧ some k_ ≠ (.slice Ao55 t479.length co55 : Value).ownBlock ∧ some k_ ≠ (v497 : Value).ownBlock)) (by (with_reducible repeat (first | apply Kd.V_alloc | apply Kd.V_drewN | apply Kd.V_drew)); exact Kd.V_mono HO491.out (fun _ hk => ⟨⟨hk.1.1.1, ⟨hk.1.1.2, hk.2⟩⟩, hk.1.2⟩)) hg hat)
              have n4_ := zM (Kd.V_afterv (ok := (fun k_ => some k_ ≠ (.slice Ao10 t472.length co10 : Value).ownBlock ∧ some k_ ≠ (.slice Ao55 t479.length co55 : Value).ownBlock ∧ some k_ ≠ (v497 : Value).ownBlock)) (by (with_reducible repeat (first | apply Kd.V_alloc | apply Kd.V_drewN | apply Kd.V_drew)); exact Kd.V_mono HO503.out (fun _ hk => ⟨⟨hk.1.1.1, ⟨hk.1.1.2, hk.2⟩⟩, hk.1.2⟩)) hg hat)
              have n5_ := zM (Kd.N_afterv (ok := (fun k_ => some k_ ≠ (.slice Ao9 t471.length co9 : Value).ownBlock ∧ some k_ ≠ (.slice Ao10 t472.length co10 : Value).ownBlock ∧ some k_ ≠ (.slice Ao55 t479.length co55 : Value).ownBlock)) (by (with_reducible repeat (first | apply Kd.N_alloc | apply Kd.N_drewN | apply Kd.N_drew)); exact Kd.N_mono HO498.out (fun _ hk => ⟨⟨hk.1, ⟨hk.2.1, hk.2.2.1⟩⟩, hk.2.2.2⟩)) hg hat)
              have n6_ := zM (hb)
              have n7_ := zM (ho)
              clear HO_3
              clear HO_4
              clear HO_7
              clear HO491
              clear HO503
              clear HO498
              clear HB
              clear HO486
              have HO_3 := n0_
              have HO_4 := n1_
              have HO_7 := n2_
              have HO491 := n3_
              have HO503 := n4_
              have HO498 := n5_
              have HB := n6_
              have HO494 := n7_
              clear n0_ n1_ n2_ n3_ n4_ n5_ n6_ n7_
              clear ho hb hg hat
              obtain ⟨Ao64, co64, eo64⟩ := Kd.N_slice HO494.out
              (first | subst eo64 | (injection eo64 with f1_ f2_ f3_; have f4_ := f1_.symm; have f5_ := f3_.symm; clear f1_ f2_ f3_; subst f4_; subst f5_))
              refine hK.out _ _ trivial (fun hHeld => ?_)
              clear hK K
              refine norm_ (a' := ?_) ?_ ?_
              rotate_left
              ·
               show Act.put _ (some 50) _ = _
               simp only [Act.put, zA, zB, zC, i64_w, i32_w]
               rfl
              refine one_ (i := 7) (N := some 52) #[tt, tt, tt, tt, tt, tt, tt, tt, tt, tt, tt, tt, ff, tt, ff, ff, ff, ff, ff, ff, ff, ff, ff, ff, ff, ff, ff] rfl rfl (one_of HT_.out (by kernel_rfl)) (by decide) (fun K hK => ?_)
              refine goes_ Try.func20 (by kernel_rfl) rfl #[.slice Ao64 y492.length co64, .slice Ao10 t472.length co10] (by rfl) rfl rfl (by (try simp only [List.map_toArray, List.map_cons, List.map_nil]); first | done | rfl | (simp only [List.length_drop, List.length_take]; rfl)) ?_
              with_reducible refine (impl_RowMany.calls k1 _ _ y492 _ _ t472 t495 _ ?side1 ?side2 ?side3 ?side4 A20.out).mono ?_
              (case side1 => repeat (first | exact (Kd.N_reads' HO494.out).2.2 | (with_reducible refine zQ ?_ _) | (with_reducible refine zO ?_ _) | (with_reducible refine zP ?_)))
              (case side2 => exact (Kd.N_reads' HO494.out).2.1)
              (case side3 => repeat (first | exact (Kd.R_reads' HO_4.out).2.2 | (with_reducible refine zQ ?_ _) | (with_reducible refine zO ?_ _) | (with_reducible refine zP ?_)))
              (case side4 => exact (Kd.R_reads' HO_4.out).2.1)
              rintro e w' ⟨rfl, ⟨nd, rfl⟩⟩
              refine ⟨_, rfl, ?_⟩
              refine hK.out _ _ trivial (fun hHeld => ?_)
              clear hK K
              refine norm_ (a' := ?_) ?_ ?_
              rotate_left
              ·
               show Act.put _ (some 52) _ = _
               simp only [Act.put, zA, zB, zC, i64_w, i32_w]
               rfl
              exact norm_ (by simp only [putAll, Act.put, zA, zB, zC]) (hCont (v485, .slice Ao64 y492.length co64, v497) _ ⟨(by (with_reducible repeat (first | apply Kd.V_alloc | apply Kd.V_drewN | apply Kd.V_drew)); exact Kd.V_mono HO491.out (fun _ hk => ⟨hk.2, ⟨hk.1.2.2, ⟨hk.1.1, hk.1.2.1⟩⟩⟩)), (by (with_reducible repeat (first | apply Kd.N_alloc | apply Kd.N_drewN | apply Kd.N_drew)); exact Kd.N_mono HO494.out (fun _ hk => ⟨hk.2.2, ⟨hk.1, hk.2.1⟩⟩)), (by (with_reducible repeat (first | apply Kd.N_alloc | apply Kd.N_drewN | apply Kd.N_drew)); exact Kd.N_mono HO498.out (fun _ hk => ⟨hk.2, ⟨hk.1.1, ⟨hk.1.2.1, hk.1.2.2⟩⟩⟩)), (by (with_reducible repeat (first | apply Kd.V_alloc | apply Kd.V_drewN | apply Kd.V_drew)); exact Kd.V_mono HO503.out (fun _ hk => ⟨hk.2, ⟨hk.1.2.2, ⟨hk.1.1, hk.1.2.1⟩⟩⟩)), (by (with_reducible repeat (first | apply Kd.N_alloc | apply Kd.N_drewN | apply Kd.N_drew)); exact Kd.N_mono HO_3.out (fun _ hk => ⟨hk.2, ⟨hk.1.2.2, ⟨hk.1.1, hk.1.2.1⟩⟩⟩)), (by (with_reducible repeat (first | apply zR | apply zS | apply zT)); exact HO_4.out), (by (with_reducible repeat (first | apply Kd.N_alloc | apply Kd.N_drewN | apply Kd.N_drew)); exact Kd.N_mono HO_7.out (fun _ hk => ⟨hk.2, ⟨hk.1.2, hk.1.1⟩⟩)), (by repeat (first | (with_reducible first | exact HB.out | apply zU | apply zV | apply zW) | exact HB.out))⟩)
            ·
             skip
             refine Kd.N_lit_step (Kd.slice 83 k83) _ 39 ?hg (N' := 53) ?hd (xs := ([] : List (List (S83)))) (inner := []) (ok := (fun k_ => some k_ ≠ (.slice Ao9 t471.length co9 : Value).ownBlock ∧ some k_ ≠ (.slice Ao10 t472.length co10 : Value).ownBlock ∧ some k_ ≠ (.slice Ao55 t479.length co55 : Value).ownBlock)) (okp := (fun k_ => some k_ ≠ (.slice Ao9 t471.length co9 : Value).ownBlock ∧ some k_ ≠ (.slice Ao10 t472.length co10 : Value).ownBlock ∧ some k_ ≠ (.slice Ao55 t479.length co55 : Value).ownBlock)) ?hr ?hp (fun _ hk => hk) ((show ∀ k_, w56.heap.size ≤ k_ → (fun k_ => some k_ ≠ (.slice Ao9 t471.length co9 : Value).ownBlock ∧ some k_ ≠ (.slice Ao10 t472.length co10 : Value).ownBlock ∧ some k_ ≠ (.slice Ao55 t479.length co55 : Value).ownBlock) k_ from fun k_ hk => ⟨Kd.fresh' (Kd.N_lt (by (with_reducible repeat (first | apply Kd.N_alloc | apply Kd.N_drewN | apply Kd.N_drew)); exact HO_3.out)) k_ hk, Kd.fresh' (Kd.R_lt (by (with_reducible repeat (first | apply zR | apply zS | apply zT)); exact HO_4.out)) k_ hk, Kd.fresh' (Kd.N_lt (by (with_reducible repeat (first | apply Kd.N_alloc | apply Kd.N_drewN | apply Kd.N_drew)); exact HO_7.out)) k_ hk⟩) _ (Nat.le_refl _)) (Below.refl _ _) (Nat.le_refl _) (by simp) ?_; (case hd => rfl); (case hg => rfl); (case hr => first | (go_simp; done) | (go_simp; rfl)); (case hp => exact (Reps.none _ _))
             intro v497 w59 ho60 hb hg_ hnew_
             clear hg_ hnew_
             (first | rw [← Ny496.out] at ho60 | (simp only [Int.reduceToNat] at ho60; rw [← Ny496.out] at ho60))
             have n0_ := zM (Kd.N_elder' (by (with_reducible repeat (first | apply Kd.N_alloc | apply Kd.N_drewN | apply Kd.N_drew)); exact HO_3.out) (Kd.N_base ho60) hb)
             have n1_ := zM (Kd.R_below (by (with_reducible repeat (first | apply zR | apply zS | apply zT)); exact HO_4.out) hb)
             have n2_ := zM (Kd.N_elder' (by (with_reducible repeat (first | apply Kd.N_alloc | apply Kd.N_drewN | apply Kd.N_drew)); exact HO_7.out) (Kd.N_base ho60) hb)
             have n3_ := zM (Kd.V_elder' (by (with_reducible repeat (first | apply Kd.V_alloc | apply Kd.V_drewN | apply Kd.V_drew)); exact HO491.out) (Kd.N_base ho60) hb)
             have n4_ := zM (Kd.V_elder' (by (with_reducible repeat (first | apply Kd.V_alloc | apply Kd.V_drewN | apply Kd.V_drew)); exact HO503.out) (Kd.N_base ho60) hb)
             have n5_ := zM (Kd.N_lower ho60 (zI (by repeat (first | (with_reducible first | exact HB.out | apply zU | apply zV | apply zW) | exact HB.out))))
             have n6_ := zM (zG (by repeat (first | (with_reducible first | exact HB.out | apply zU | apply zV | apply zW) | exact HB.out)) hb)
             clear HO_3
             clear HO_4
             clear HO_7
             clear HO491
             clear HO503
             clear HB
             have HO_3 := n0_
             have HO_4 := n1_
             have HO_7 := n2_
             have HO491 := n3_
             have HO503 := n4_
             have HO498 := n5_
             have HB := n6_
             clear n0_ n1_ n2_ n3_ n4_ n5_ n6_
             clear hb ho60
             refine hK.out _ _ trivial (fun hHeld => ?_)
             clear hK K
             refine norm_ (a' := ?_) ?_ ?_
             rotate_left
             ·
              show Act.put _ (some 53) _ = _
              simp only [Act.put, zA, zB, zC, i64_w, i32_w]
              rfl
             refine one_ (i := 1) (N := some 46) #[tt, tt, tt, tt, tt, ff, tt, ff, tt, tt, tt, tt, ff, tt, ff, ff, ff, ff, ff, ff, ff, ff, ff, ff, ff, ff, ff] rfl rfl (one_of HT_.out (by kernel_rfl)) (by decide) (fun K hK => ?_)
             refine Kd.N_lit_step (Kd.slice 83 k83) _ 39 ?hg (N' := 46) ?hd (xs := ([] : List (List (S83)))) (inner := []) (ok := (fun k_ => some k_ ≠ (.slice Ao9 t471.length co9 : Value).ownBlock ∧ some k_ ≠ (.slice Ao10 t472.length co10 : Value).ownBlock ∧ some k_ ≠ (.slice Ao55 t479.length co55 : Value).ownBlock ∧ some k_ ≠ (v497 : Value).ownBlock)) (okp := (fun k_ => some k_ ≠ (.slice Ao9 t471.length co9 : Value).ownBlock ∧ some k_ ≠ (.slice Ao10 t472.length co10 : Value).ownBlock ∧ some k_ ≠ (.slice Ao55 t479.length co55 : Value).ownBlock ∧ some k_ ≠ (v497 : Value).ownBlock)) ?hr ?hp (fun _ hk => hk) ((show ∀ k_, w59.heap.size ≤ k_ → (fun k_ => some k_ ≠ (.slice Ao9 t471.length co9 : Value).ownBlock ∧ some k_ ≠ (.slice Ao10 t472.length co10 : Value).ownBlock ∧ some k_ ≠ (.slice Ao55 t479.length co55 : Value).ownBlock ∧ some k_ ≠ (v497 : Value).ownBlock) k_ from fun k_ hk => ⟨Kd.fresh' (Kd.N_lt (by (with_reducible repeat (first | apply Kd.N_alloc | apply Kd.N_drewN | apply Kd.N_drew)); exact HO_3.out)) k_ hk, Kd.fresh' (Kd.R_lt (by (with_reducible repeat (first | apply zR | apply zS | apply zT)); exact HO_4.out)) k_ hk, Kd.fresh' (Kd.N_lt (by (with_reducible repeat (first | apply Kd.N_alloc | apply Kd.N_drewN | apply Kd.N_drew)); exact HO_7.out)) k_ hk, Kd.fresh' (Kd.N_lt (by (with_reducible repeat (first | apply Kd.N_alloc | apply Kd.N_drewN | apply Kd.N_drew)); exact HO498.out)) k_ hk⟩) _ (Nat.le_refl _)) (Below.refl _ _) (Nat.le_refl _) (by simp) ?_; (case hd => rfl); (case hg => rfl); (case hr => first | (go_simp; done) | (go_simp; rfl)); (case hp => exact (Reps.none _ _))
             intro v485 w61 ho62 hb hg_ hnew_
             clear hg_ hnew_
             (first | rw [← Ny484.out] at ho62 | (simp only [Int.reduceToNat] at ho62; rw [← Ny484.out] at ho62))
             have n0_ := zM (Kd.N_elder' (by (with_reducible repeat (first | apply Kd.N_alloc | apply Kd.N_drewN | apply Kd.N_drew)); exact HO_3.out) (Kd.N_base ho62) hb)
             have n1_ := zM (Kd.R_below (by (with_reducible repeat (first | apply zR | apply zS | apply zT)); exact HO_4.out) hb)
             have n2_ := zM (Kd.N_elder' (by (with_reducible repeat (first | apply Kd.N_alloc | apply Kd.N_drewN | apply Kd.N_drew)); exact HO_7.out) (Kd.N_base ho62) hb)
             have n3_ := zM (Kd.V_elder' (by (with_reducible repeat (first | apply Kd.V_alloc | apply Kd.V_drewN | apply Kd.V_drew)); exact HO491.out) (Kd.N_base ho62) hb)
             have n4_ := zM (Kd.V_elder' (by (with_reducible repeat (first | apply Kd.V_alloc | apply Kd.V_drewN | apply Kd.V_drew)); exact HO503.out) (Kd.N_base ho62) hb)
             have n5_ := zM (Kd.N_elder' (by (with_reducible repeat (first | apply Kd.N_alloc | apply Kd.N_drewN | apply Kd.N_drew)); exact HO498.out) (Kd.N_base ho62) hb)
             have n6_ := zM (Kd.N_lower ho62 (zI (by repeat (first | (with_reducible first | exact HB.out | apply zU | apply zV | apply zW) | exact HB.out))))
             have n7_ := zM (zG (by repeat (first | (with_reducible first | exact HB.out | apply zU | apply zV | apply zW) | exact HB.out)) hb)
             clear HO_3
             clear HO_4
             clear HO_7
             clear HO491
             clear HO503
             clear HO498
             clear HB
             have HO_3 := n0_
             have HO_4 := n1_
             have HO_7 := n2_
             have HO491 := n3_
             have HO503 := n4_
             have HO498 := n5_
             have HO486 := n6_
             have HB := n7_
             clear n0_ n1_ n2_ n3_ n4_ n5_ n6_ n7_
             clear hb ho62
             refine hK.out _ _ trivial (fun hHeld => ?_)
             clear hK K
             refine norm_ (a' := ?_) ?_ ?_
             rotate_left
             ·
              show Act.put _ (some 46) _ = _
              simp only [Act.put, zA, zB, zC, i64_w, i32_w]
              rfl
             refine one_ (i := 5) (N := some 50) #[tt, tt, tt, tt, tt, tt, tt, ff, tt, tt, tt, tt, ff, tt, ff, ff, ff, ff, ff, ff, ff, ff, ff, ff, ff, ff, ff] rfl rfl (one_of HT_.out (by kernel_rfl)) (by decide) (fun K hK => ?_)
             refine Kd.N_append_rows_step (Kd.slice 83 k83) (w0 := w) w.heap.size (by rfl) (.tmp 46) (.tmp 49) 38 39 (.slice none 0 0) 24 rfl Try.underlying38 info39 rfl (by decide) (by omega) v485 y484 y487 _ _ _ (fun k_ => some k_ ≠ (.slice Ao10 t472.length co10 : Value).ownBlock ∧ some k_ ≠ (.slice Ao55 t479.length co55 : Value).ownBlock ∧ some k_ ≠ (v497 : Value).ownBlock) (fun k_ => ((fun k_ => some k_ ≠ (.slice Ao10 t472.length co10 : Value).ownBlock ∧ some k_ ≠ (.slice Ao55 t479.length co55 : Value).ownBlock ∧ some k_ ≠ (v497 : Value).ownBlock)) k_ ∧ some k_ ≠ (v485 : Value).ownBlock) rfl rfl ?aO ?aR (fun _ hk => hk) ?aF ?aB ?aS ?aL ?_
             (case aR => exact (by skip; exact Kd.V_F (Kd.V_mono (ok' := (fun k_ => ((fun k_ => some k_ ≠ (.slice Ao10 t472.length co10 : Value).ownBlock ∧ some k_ ≠ (.slice Ao55 t479.length co55 : Value).ownBlock ∧ some k_ ≠ (v497 : Value).ownBlock)) k_ ∧ some k_ ≠ (v485 : Value).ownBlock)) (HO491.out) (fun k_ hk => ⟨⟨hk.1.1.1, ⟨hk.1.1.2, hk.1.2⟩⟩, hk.2⟩))))
             (case aB => exact (by repeat (first | (with_reducible first | exact HB.out | apply zU | apply zV | apply zW) | exact HB.out)))
             (case aF => exact (fun k_ hk => ⟨Kd.fresh' (Kd.R_lt (by (with_reducible repeat (first | apply zR | apply zS | apply zT)); exact HO_4.out)) k_ hk, Kd.fresh' (Kd.N_lt (by (with_reducible repeat (first | apply Kd.N_alloc | apply Kd.N_drewN | apply Kd.N_drew)); exact HO_7.out)) k_ hk, Kd.fresh' (Kd.N_lt (by (with_reducible repeat (first | apply Kd.N_alloc | apply Kd.N_drewN | apply Kd.N_drew)); exact HO498.out)) k_ hk⟩))
             (case aO => exact (by (with_reducible repeat (first | apply Kd.N_alloc | apply Kd.N_drewN | apply Kd.N_drew)); exact Kd.N_mono HO486.out (fun _ hk => ⟨hk.2.1, ⟨hk.2.2.1, hk.2.2.2⟩⟩)))
             (case aS => exact (zI (by repeat (first | (with_reducible first | exact HB.out | apply zU | apply zV | apply zW) | exact HB.out))))
             (case aL => have := LMc19.out; omega)
             intro v493 w63 ho hb hg hat
             rw [← Ny492.out] at ho
             have n0_ := zM (Kd.N_afterv (ok := (fun k_ => some k_ ≠ (.slice Ao10 t472.length co10 : Value).ownBlock ∧ some k_ ≠ (.slice Ao55 t479.length co55 : Value).ownBlock ∧ some k_ ≠ (v497 : Value).ownBlock)) (by (with_reducible repeat (first | apply Kd.N_alloc | apply Kd.N_drewN | apply Kd.N_drew)); exact Kd.N_mono HO_3.out (fun _ hk => ⟨⟨hk.1.1.1, ⟨hk.1.1.2, hk.1.2⟩⟩, hk.2⟩)) hg hat)
             have n1_ := zM (Kd.R_over' (by (with_reducible repeat (first | apply zR | apply zS | apply zT)); exact HO_4.out) (Kd.N_typed (by (with_reducible repeat (first | apply Kd.N_alloc | apply Kd.N_drewN | apply Kd.N_drew)); exact HO486.out)) (by decide) hg)
             have n2_ := zM (Kd.N_afterv (ok := (fun k_ => some k_ ≠ (.slice Ao10 t472.length co10 : Value).ownBlock ∧ some k_ ≠ (v497 : Value).ownBlock)) (by (with_reducible repeat (first | apply Kd.N_alloc | apply Kd.N_drewN | apply Kd.N_drew)); exact HO_7.out) hg hat)
             have n3_ := zM (Kd.V_afterv (ok := (fun k_ => some k_ ≠ (.slice Ao10 t472.length co10 : Value).ownBlock ∧ some k_ ≠ (.slice Ao55 t479.length co55 : Value).ownBlock ∧ some k_ ≠ (v497 : Value).ownBlock)) (by (with_reducible repeat (first | apply Kd.V_alloc | apply Kd.V_drewN | apply Kd.V_drew)); exact Kd.V_mono HO491.out (fun _ hk => ⟨⟨hk.1.1.1, ⟨hk.1.1.2, hk.1.2⟩⟩, hk.2⟩)) hg hat)
             have n4_ := zM (Kd.V_afterv (ok := (fun k_ => some k_ ≠ (.slice Ao10 t472.length co10 : Value).ownBlock ∧ some k_ ≠ (.slice Ao55 t479.length co55 : Value).ownBlock ∧ some k_ ≠ (v497 : Value).ownBlock)) (by (with_reducible repeat (first | apply Kd.V_alloc | apply Kd.V_drewN | apply Kd.V_drew)); exact Kd.V_mono HO503.out (fun _ hk => ⟨⟨hk.1.1.1, ⟨hk.1.1.2, hk.1.2⟩⟩, hk.2⟩)) hg hat)
             have n5_ := zM (Kd.N_afterv (ok := (fun k_ => some k_ ≠ (.slice Ao9 t471.length co9 : Value).ownBlock ∧ some k_ ≠ (.slice Ao10 t472.length co10 : Value).ownBlock ∧ some k_ ≠ (.slice Ao55 t479.length co55 : Value).ownBlock)) (by (with_reducible repeat (first | apply Kd.N_alloc | apply Kd.N_drewN | apply Kd.N_drew)); exact HO498.out) hg hat)
             have n6_ := zM (hb)
             have n7_ := zM (ho)
             clear HO_3
             clear HO_4
             clear HO_7
             clear HO491
             clear HO503
             clear HO498
             clear HB
             clear HO486
             have HO_3 := n0_
             have HO_4 := n1_
             have HO_7 := n2_
             have HO491 := n3_
             have HO503 := n4_
             have HO498 := n5_
             have HB := n6_
             have HO494 := n7_
             clear n0_ n1_ n2_ n3_ n4_ n5_ n6_ n7_
             clear ho hb hg hat
             obtain ⟨Ao64, co64, eo64⟩ := Kd.N_slice HO494.out
             (first | subst eo64 | (injection eo64 with f1_ f2_ f3_; have f4_ := f1_.symm; have f5_ := f3_.symm; clear f1_ f2_ f3_; subst f4_; subst f5_))
             refine hK.out _ _ trivial (fun hHeld => ?_)
             clear hK K
             refine norm_ (a' := ?_) ?_ ?_
             rotate_left
             ·
              show Act.put _ (some 50) _ = _
              simp only [Act.put, zA, zB, zC, i64_w, i32_w]
              rfl
             refine one_ (i := 7) (N := some 52) #[tt, tt, tt, tt, tt, tt, tt, tt, tt, tt, tt, tt, ff, tt, ff, ff, ff, ff, ff, ff, ff, ff, ff, ff, ff, ff, ff] rfl rfl (one_of HT_.out (by kernel_rfl)) (by decide) (fun K hK => ?_)
             refine goes_ Try.func20 (by kernel_rfl) rfl #[.slice Ao64 y492.length co64, .slice Ao10 t472.length co10] (by rfl) rfl rfl (by (try simp only [List.map_toArray, List.map_cons, List.map_nil]); first | done | rfl | (simp only [List.length_drop, List.length_take]; rfl)) ?_
             with_reducible refine (impl_RowMany.calls k1 _ _ y492 _ _ t472 t495 _ ?side1 ?side2 ?side3 ?side4 A20.out).mono ?_
             (case side1 => repeat (first | exact (Kd.N_reads' HO494.out).2.2 | (with_reducible refine zQ ?_ _) | (with_reducible refine zO ?_ _) | (with_reducible refine zP ?_)))
             (case side2 => exact (Kd.N_reads' HO494.out).2.1)
             (case side3 => repeat (first | exact (Kd.R_reads' HO_4.out).2.2 | (with_reducible refine zQ ?_ _) | (with_reducible refine zO ?_ _) | (with_reducible refine zP ?_)))
             (case side4 => exact (Kd.R_reads' HO_4.out).2.1)
             rintro e w' ⟨rfl, ⟨nd, rfl⟩⟩
             refine ⟨_, rfl, ?_⟩
             refine hK.out _ _ trivial (fun hHeld => ?_)
             clear hK K
             refine norm_ (a' := ?_) ?_ ?_
             rotate_left
             ·
              show Act.put _ (some 52) _ = _
              simp only [Act.put, zA, zB, zC, i64_w, i32_w]
              rfl
             exact norm_ (by simp only [putAll, Act.put, zA, zB, zC]) (hCont (v485, .slice Ao64 y492.length co64, v497) _ ⟨(by (with_reducible repeat (first | apply Kd.V_alloc | apply Kd.V_drewN | apply Kd.V_drew)); exact Kd.V_mono HO491.out (fun _ hk => ⟨hk.2, ⟨hk.1.2.2, ⟨hk.1.1, hk.1.2.1⟩⟩⟩)), (by (with_reducible repeat (first | apply Kd.N_alloc | apply Kd.N_drewN | apply Kd.N_drew)); exact Kd.N_mono HO494.out (fun _ hk => ⟨hk.2.2, ⟨hk.1, hk.2.1⟩⟩)), (by (with_reducible repeat (first | apply Kd.N_alloc | apply Kd.N_drewN | apply Kd.N_drew)); exact Kd.N_mono HO498.out (fun _ hk => ⟨hk.2, ⟨hk.1.1, ⟨hk.1.2.1, hk.1.2.2⟩⟩⟩)), (by (with_reducible repeat (first | apply Kd.V_alloc | apply Kd.V_drewN | apply Kd.V_drew)); exact Kd.V_mono HO503.out (fun _ hk => ⟨hk.2, ⟨hk.1.2.2, ⟨hk.1.1, hk.1.2.1⟩⟩⟩)), (by (with_reducible repeat (first | apply Kd.N_alloc | apply Kd.N_drewN | apply Kd.N_drew)); exact Kd.N_mono HO_3.out (fun _ hk => ⟨hk.2, ⟨hk.1.2.2, ⟨hk.1.1, hk.1.2.1⟩⟩⟩)), (by (with_reducible repeat (first | apply zR | apply zS | apply zT)); exact HO_4.out), (by (with_reducible repeat (first | apply Kd.N_alloc | apply Kd.N_drewN | apply Kd.N_drew)); exact Kd.N_mono HO_7.out (fun _ hk => ⟨hk.2, ⟨hk.1.2, hk.1.1⟩⟩)), (by repeat (first | (with_reducible first | exact HB.out | apply zU | apply zV | apply zW) | exact HB.out))⟩)
           rintro ⟨v485, v493, v497⟩ w65 ⟨h0_, h1_, h2_, h3_, h4_, h5_, h6_, h7_⟩
           have n0_ : Aside0 (Kd.V (Kd.slice 83 k83) 39 w65 w.heap.size (fun k_ => some k_ ≠ (v493 : Value).ownBlock ∧ some k_ ≠ (v497 : Value).ownBlock ∧ some k_ ≠ (.slice Ao10 t472.length co10 : Value).ownBlock ∧ some k_ ≠ (.slice Ao55 t479.length co55 : Value).ownBlock) (.slice Ao9 y487.length co9) y487) := ⟨h0_⟩
           have n1_ : Aside0 (Kd.N (Kd.slice 83 k83) 39 w65 w.heap.size (fun k_ => some k_ ≠ (v497 : Value).ownBlock ∧ some k_ ≠ (.slice Ao10 t472.length co10 : Value).ownBlock ∧ some k_ ≠ (.slice Ao55 t479.length co55 : Value).ownBlock) v493 y492) := ⟨h1_⟩
           have n2_ : Aside0 (Kd.N (Kd.slice 83 k83) 39 w65 w.heap.size (fun k_ => some k_ ≠ (v493 : Value).ownBlock ∧ some k_ ≠ (.slice Ao9 t471.length co9 : Value).ownBlock ∧ some k_ ≠ (.slice Ao10 t472.length co10 : Value).ownBlock ∧ some k_ ≠ (.slice Ao55 t479.length co55 : Value).ownBlock) v497 y496) := ⟨h2_⟩
           have n3_ : Aside0 (Kd.V (Kd.slice 83 k83) 39 w65 w.heap.size (fun k_ => some k_ ≠ (v493 : Value).ownBlock ∧ some k_ ≠ (v497 : Value).ownBlock ∧ some k_ ≠ (.slice Ao10 t472.length co10 : Value).ownBlock ∧ some k_ ≠ (.slice Ao55 t479.length co55 : Value).ownBlock) (.slice A58 y499.length c58) y499) := ⟨h3_⟩
           have n4_ : Aside0 (Kd.N (Kd.slice 83 k83) 39 w65 w.heap.size (fun k_ => some k_ ≠ (v493 : Value).ownBlock ∧ some k_ ≠ (v497 : Value).ownBlock ∧ some k_ ≠ (.slice Ao10 t472.length co10 : Value).ownBlock ∧ some k_ ≠ (.slice Ao55 t479.length co55 : Value).ownBlock) (.slice Ao9 t471.length co9) t471) := ⟨h4_⟩
           have n5_ : Aside0 (Kd.R k83 83 w65 w.heap.size (fun _ => True) (.slice Ao10 t472.length co10) t472) := ⟨h5_⟩
           have n6_ : Aside0 (Kd.N (Kd.slice 83 k83) 39 w65 w.heap.size (fun k_ => some k_ ≠ (v493 : Value).ownBlock ∧ some k_ ≠ (v497 : Value).ownBlock ∧ some k_ ≠ (.slice Ao10 t472.length co10 : Value).ownBlock) (.slice Ao55 t479.length co55) t479) := ⟨h6_⟩
           have n7_ : Aside0 (Below w.heap.size w w65) := ⟨h7_⟩
           clear HO_3
           clear HO_4
           clear HO_7
           clear HB
           clear h0_ h1_ h2_ h3_ h4_ h5_ h6_ h7_
           have HO491 := n0_
           have HO494 := n1_
           have HO498 := n2_
           have HO503 := n3_
           have HO_3 := n4_
           have HO_4 := n5_
           have HO_7 := n6_
           have HB := n7_
           clear n0_ n1_ n2_ n3_ n4_ n5_ n6_ n7_
           have hHeld := trivial
           refine norm_ (a' := ?_) ?_ ?_
           rotate_left
           ·
            simp only [putAll, Act.put, zA, zB, zC]
            rfl
           refine one_ (i := 12) (N := some 57) #[tt, tt, tt, tt, tt, tt, tt, tt, tt, tt, tt, tt, tt, tt, ff, ff, ff, ff, ff, ff, ff, ff, ff, ff, ff, ff, ff] rfl rfl (one_of HT_.out (by kernel_rfl)) (by decide) (fun K hK => ?_)
           refine Kd.N_append_rows_step (Kd.slice 83 k83) (w0 := w) w.heap.size (by rfl) (.tmp 53) (.tmp 56) 38 39 (.slice none 0 0) 24 rfl Try.underlying38 info39 rfl (by decide) (by omega) v497 y496 y499 _ _ _ (fun k_ => some k_ ≠ (.slice Ao10 t472.length co10 : Value).ownBlock ∧ some k_ ≠ (.slice Ao55 t479.length co55 : Value).ownBlock ∧ some k_ ≠ (v493 : Value).ownBlock) (fun k_ => ((fun k_ => some k_ ≠ (.slice Ao10 t472.length co10 : Value).ownBlock ∧ some k_ ≠ (.slice Ao55 t479.length co55 : Value).ownBlock ∧ some k_ ≠ (v493 : Value).ownBlock)) k_ ∧ some k_ ≠ (v497 : Value).ownBlock) rfl rfl ?aO ?aR (fun _ hk => hk) ?aF ?aB ?aS ?aL ?_
           (case aR => exact (by skip; exact Kd.V_F (Kd.V_mono (ok' := (fun k_ => ((fun k_ => some k_ ≠ (.slice Ao10 t472.length co10 : Value).ownBlock ∧ some k_ ≠ (.slice Ao55 t479.length co55 : Value).ownBlock ∧ some k_ ≠ (v493 : Value).ownBlock)) k_ ∧ some k_ ≠ (v497 : Value).ownBlock)) (HO503.out) (fun k_ hk => ⟨⟨hk.2.2.1, ⟨hk.2.2.2, hk.1⟩⟩, hk.2.1⟩))))
           (case aB => exact (by repeat (first | (with_reducible first | exact HB.out | apply zU | apply zV | apply zW) | exact HB.out)))
           (case aF => exact (fun k_ hk => ⟨Kd.fresh' (Kd.R_lt (by (with_reducible repeat (first | apply zR | apply zS | apply zT)); exact HO_4.out)) k_ hk, Kd.fresh' (Kd.N_lt (by (with_reducible repeat (first | apply Kd.N_alloc | apply Kd.N_drewN | apply Kd.N_drew)); exact HO_7.out)) k_ hk, Kd.fresh' (Kd.N_lt (by (with_reducible repeat (first | apply Kd.N_alloc | apply Kd.N_drewN | apply Kd.N_drew)); exact HO494.out)) k_ hk⟩))
           (case aO => exact (by (with_reducible repeat (first | apply Kd.N_alloc | apply Kd.N_drewN | apply Kd.N_drew)); exact Kd.N_mono HO498.out (fun _ hk => ⟨hk.2.2.1, ⟨hk.2.2.2, hk.1⟩⟩)))
           (case aS => exact (zI (by repeat (first | (with_reducible first | exact HB.out | apply zU | apply zV | apply zW) | exact HB.out))))
           (case aL => have := LMc23.out; omega)
           intro v505 w66 ho hb hg hat
           rw [← Ny504.out] at ho
           have n0_ := zM (Kd.N_afterv (ok := (fun k_ => some k_ ≠ (.slice Ao10 t472.length co10 : Value).ownBlock ∧ some k_ ≠ (.slice Ao55 t479.length co55 : Value).ownBlock ∧ some k_ ≠ (v493 : Value).ownBlock)) (by (with_reducible repeat (first | apply Kd.N_alloc | apply Kd.N_drewN | apply Kd.N_drew)); exact Kd.N_mono HO_3.out (fun _ hk => ⟨⟨hk.2.2.1, ⟨hk.2.2.2, hk.1⟩⟩, hk.2.1⟩)) hg hat)
           have n1_ := zM (Kd.R_over' (by (with_reducible repeat (first | apply zR | apply zS | apply zT)); exact HO_4.out) (Kd.N_typed (by (with_reducible repeat (first | apply Kd.N_alloc | apply Kd.N_drewN | apply Kd.N_drew)); exact HO498.out)) (by decide) hg)
           have n2_ := zM (Kd.N_afterv (ok := (fun k_ => some k_ ≠ (.slice Ao10 t472.length co10 : Value).ownBlock ∧ some k_ ≠ (v493 : Value).ownBlock)) (by (with_reducible repeat (first | apply Kd.N_alloc | apply Kd.N_drewN | apply Kd.N_drew)); exact Kd.N_mono HO_7.out (fun _ hk => ⟨⟨hk.2.2, hk.1⟩, hk.2.1⟩)) hg hat)
           have n3_ := zM (Kd.V_afterv (ok := (fun k_ => some k_ ≠ (.slice Ao10 t472.length co10 : Value).ownBlock ∧ some k_ ≠ (.slice Ao55 t479.length co55 : Value).ownBlock ∧ some k_ ≠ (v493 : Value).ownBlock)) (by (with_reducible repeat (first | apply Kd.V_alloc | apply Kd.V_drewN | apply Kd.V_drew)); exact Kd.V_mono HO491.out (fun _ hk => ⟨⟨hk.2.2.1, ⟨hk.2.2.2, hk.1⟩⟩, hk.2.1⟩)) hg hat)
           have n4_ := zM (Kd.V_afterv (ok := (fun k_ => some k_ ≠ (.slice Ao10 t472.length co10 : Value).ownBlock ∧ some k_ ≠ (.slice Ao55 t479.length co55 : Value).ownBlock ∧ some k_ ≠ (v493 : Value).ownBlock)) (by (with_reducible repeat (first | apply Kd.V_alloc | apply Kd.V_drewN | apply Kd.V_drew)); exact Kd.V_mono HO503.out (fun _ hk => ⟨⟨hk.2.2.1, ⟨hk.2.2.2, hk.1⟩⟩, hk.2.1⟩)) hg hat)
           have n5_ := zM (Kd.N_afterv (ok := (fun k_ => some k_ ≠ (.slice Ao10 t472.length co10 : Value).ownBlock ∧ some k_ ≠ (.slice Ao55 t479.length co55 : Value).ownBlock)) (by (with_reducible repeat (first | apply Kd.N_alloc | apply Kd.N_drewN | apply Kd.N_drew)); exact Kd.N_mono HO494.out (fun _ hk => ⟨⟨hk.2.1, hk.2.2⟩, hk.1⟩)) hg hat)
           have n6_ := zM (hb)
           have n7_ := zM (ho)
           clear HO_3
           clear HO_4
           clear HO_7
           clear HO491
           clear HO503
           clear HO494
           clear HB
           clear HO498
           have HO_3 := n0_
           have HO_4 := n1_
           have HO_7 := n2_
           have HO491 := n3_
           have HO503 := n4_
           have HO494 := n5_
           have HB := n6_
           have HO506 := n7_
           clear n0_ n1_ n2_ n3_ n4_ n5_ n6_ n7_
           clear ho hb hg hat
           obtain ⟨Ao67, co67, eo67⟩ := Kd.N_slice HO506.out
           (first | subst eo67 | (injection eo67 with f1_ f2_ f3_; have f4_ := f1_.symm; have f5_ := f3_.symm; clear f1_ f2_ f3_; subst f4_; subst f5_))
           refine hK.out _ _ trivial (fun hHeld => ?_)
           clear hK K
           refine norm_ (a' := ?_) ?_ ?_
           rotate_left
           ·
            show Act.put _ (some 57) _ = _
            simp only [Act.put, zA, zB, zC, i64_w, i32_w]
            rfl
           refine one_ (i := 14) (N := some 59) #[tt, tt, tt, tt, tt, tt, tt, tt, tt, tt, tt, tt, tt, tt, tt, ff, ff, ff, ff, ff, ff, ff, ff, ff, ff, ff, ff] rfl rfl (one_of HT_.out (by kernel_rfl)) (by decide) (fun K hK => ?_)
           refine goes_ Try.func20 (by kernel_rfl) rfl #[.slice Ao67 y504.length co67, .slice Ao10 t472.length co10] (by rfl) rfl rfl (by (try simp only [List.map_toArray, List.map_cons, List.map_nil]); first | done | rfl | (simp only [List.length_drop, List.length_take]; rfl)) ?_
           with_reducible refine (impl_RowMany.calls k1 _ _ y504 _ _ t472 t507 _ ?side1 ?side2 ?side3 ?side4 A24.out).mono ?_
           (case side1 => repeat (first | exact (Kd.N_reads' HO506.out).2.2 | (with_reducible refine zQ ?_ _) | (with_reducible refine zO ?_ _) | (with_reducible refine zP ?_)))
           (case side2 => exact (Kd.N_reads' HO506.out).2.1)
           (case side3 => repeat (first | exact (Kd.R_reads' HO_4.out).2.2 | (with_reducible refine zQ ?_ _) | (with_reducible refine zO ?_ _) | (with_reducible refine zP ?_)))
           (case side4 => exact (Kd.R_reads' HO_4.out).2.1)
           rintro e w' ⟨rfl, ⟨nd, rfl⟩⟩
           refine ⟨_, rfl, ?_⟩
           refine hK.out _ _ trivial (fun hHeld => ?_)
           clear hK K
           refine norm_ (a' := ?_) ?_ ?_
           rotate_left
           ·
            show Act.put _ (some 59) _ = _
            simp only [Act.put, zA, zB, zC, i64_w, i32_w]
            rfl
           refine pure_ (i := 15) (N := some 60) (v := ?_) (a' := ?_) #[tt, tt, tt, tt, tt, tt, tt, tt, tt, tt, tt, tt, tt, tt, tt, tt, ff, ff, ff, ff, ff, ff, ff, ff, ff, ff, ff] rfl rfl (any_of HT_.out (by kernel_rfl)) (fun _ _ _ h => h) (Or.inl ⟨by rfl, ?_⟩) ?_ ?_
           rotate_left
           ·
            intro w'
            go_simp
            with_reducible rfl
           rotate_left
           ·
            simp only [Act.put, zA, zB, zC, i64_w, i32_w]
            rfl
           refine pure_ (i := 16) (N := some 61) (v := ?_) (a' := ?_) #[tt, tt, tt, tt, tt, tt, tt, tt, tt, tt, tt, tt, tt, tt, tt, tt, tt, ff, ff, ff, ff, ff, ff, ff, ff, ff, ff] rfl rfl (any_of HT_.out (by kernel_rfl)) (fun _ _ _ h => h) (Or.inl ⟨by rfl, ?_⟩) ?_ ?_
           rotate_left
           ·
            intro w'
            go_simp
            with_reducible rfl
           rotate_left
           ·
            simp only [Act.put, zA, zB, zC, i64_w, i32_w]
            rfl
           refine pure_ (i := 17) (N := some 62) (v := ?_) (a' := ?_) #[tt, tt, tt, tt, tt, tt, tt, tt, tt, tt, tt, tt, tt, tt, tt, tt, tt, tt, ff, ff, ff, ff, ff, ff, ff, ff, ff] rfl rfl (any_of HT_.out (by kernel_rfl)) (fun _ _ _ h => h) (Or.inl ⟨by rfl, ?_⟩) ?_ ?_
           rotate_left
           ·
            intro w'
            go_simp
            with_reducible rfl
           rotate_left
           ·
            simp only [Act.put, zA, zB, zC, i64_w, i32_w]
            rfl
           refine pure_ (i := 18) (N := some 63) (v := undef) (a' := ?_) #[tt, tt, tt, tt, tt, tt, tt, tt, tt, tt, tt, tt, tt, tt, tt, tt, tt, tt, tt, ff, ff, ff, ff, ff, ff, ff, ff] rfl rfl (any_of HT_.out (by kernel_rfl)) (fun _ _ _ h => h) (Or.inr ⟨by rfl, rfl⟩) ?_ ?_
           rotate_left
           ·
            simp only [Act.put, zA, zB, zC, i64_w, i32_w]
            rfl
           refine pure_ (i := 19) (N := some 64) (v := undef) (a' := ?_) #[tt, tt, tt, tt, tt, tt, tt, tt, tt, tt, tt, tt, tt, tt, tt, tt, tt, tt, tt, tt, ff, ff, ff, ff, ff, ff, ff] rfl rfl (any_of HT_.out (by kernel_rfl)) (fun _ _ _ h => h) (Or.inr ⟨by rfl, rfl⟩) ?_ ?_
           rotate_left
           ·
            simp only [Act.put, zA, zB, zC, i64_w, i32_w]
            rfl
           refine pure_ (i := 20) (N := some 65) (v := undef) (a' := ?_) #[tt, tt, tt, tt, tt, tt, tt, tt, tt, tt, tt, tt, tt, tt, tt, tt, tt, tt, tt, tt, tt, ff, ff, ff, ff, ff, ff] rfl rfl (any_of HT_.out (by kernel_rfl)) (fun _ _ _ h => h) (Or.inr ⟨by rfl, rfl⟩) ?_ ?_
           rotate_left
           ·
            simp only [Act.put, zA, zB, zC, i64_w, i32_w]
            rfl
           refine pure_ (i := 21) (N := some 66) (v := undef) (a' := ?_) #[tt, tt, tt, tt, tt, tt, tt, tt, tt, tt, tt, tt, tt, tt, tt, tt, tt, tt, tt, tt, tt, tt, ff, ff, ff, ff, ff] rfl rfl (any_of HT_.out (by kernel_rfl)) (fun _ _ _ h => h) (Or.inr ⟨by rfl, rfl⟩) ?_ ?_
           rotate_left
           ·
            simp only [Act.put, zA, zB, zC, i64_w, i32_w]
            rfl
           refine pure_ (i := 22) (N := some 67) (v := ?_) (a' := ?_) #[tt, tt, tt, tt, tt, tt, tt, tt, tt, tt, tt, tt, tt, tt, tt, tt, tt, tt, tt, tt, tt, tt, tt, ff, ff, ff, ff] rfl rfl (any_of HT_.out (by kernel_rfl)) (fun _ _ _ h => h) (Or.inl ⟨by rfl, ?_⟩) ?_ ?_
           rotate_left
           ·
            intro w'
            go_simp
            with_reducible rfl
           rotate_left
           ·
            simp only [Act.put, zA, zB, zC, i64_w, i32_w]
            rfl
           refine pure_ (i := 23) (N := some 68) (v := ?_) (a' := ?_) #[tt, tt, tt, tt, tt, tt, tt, tt, tt, tt, tt, tt, tt, tt, tt, tt, tt, tt, tt, tt, tt, tt, tt, tt, ff, ff, ff] rfl rfl (any_of HT_.out (by kernel_rfl)) (fun _ _ _ h => h) (Or.inl ⟨by rfl, ?_⟩) ?_ ?_
           rotate_left
           ·
            intro w'
            go_simp
            with_reducible rfl
           rotate_left
           ·
            simp only [Act.put, zA, zB, zC, i64_w, i32_w]
            rfl
           refine pure_ (i := 24) (N := some 69) (v := undef) (a' := ?_) #[tt, tt, tt, tt, tt, tt, tt, tt, tt, tt, tt, tt, tt, tt, tt, tt, tt, tt, tt, tt, tt, tt, tt, tt, tt, ff, ff] rfl rfl (any_of HT_.out (by kernel_rfl)) (fun _ _ _ h => h) (Or.inr ⟨by rfl, rfl⟩) ?_ ?_
           rotate_left
           ·
            simp only [Act.put, zA, zB, zC, i64_w, i32_w]
            rfl
           refine pure_ (i := 25) (N := some 70) (v := ?_) (a' := ?_) #[tt, tt, tt, tt, tt, tt, tt, tt, tt, tt, tt, tt, tt, tt, tt, tt, tt, tt, tt, tt, tt, tt, tt, tt, tt, tt, ff] rfl rfl (any_of HT_.out (by kernel_rfl)) (fun _ _ _ h => h) (Or.inl ⟨by rfl, ?_⟩) ?_ ?_
           rotate_left
           ·
            intro w'
            go_simp
            with_reducible rfl
           rotate_left
           ·
            simp only [Act.put, zA, zB, zC, i64_w, i32_w]
            rfl
           refine pure_ (i := 26) (N := some 2) (v := ?_) (a' := ?_) #[tt, tt, tt, tt, tt, tt, tt, tt, tt, tt, tt, tt, tt, tt, tt, tt, tt, tt, tt, tt, tt, tt, tt, tt, tt, tt, tt] rfl rfl (any_of HT_.out (by kernel_rfl)) (fun _ _ _ h => h) (Or.inl ⟨by rfl, ?_⟩) ?_ ?_
           rotate_left
           ·
            intro w'
            go_simp
            with_reducible rfl
           rotate_left
           ·
            simp only [Act.put, zA, zB, zC, i64_w, i32_w]
            rfl
           refine done_ (done_of HT_.out (by kernel_rfl)) ?_
           try go_wp2
           go_ret
           exact ⟨by first | rfl | (simp [errW_none, errW_some] <;> rfl) | (simp only [← hji16]; first | rfl | (simp [errW_none, errW_some] <;> rfl)) | (simp [*, errW_none, errW_some] <;> rfl), by repeat (first | (with_reducible first | exact HB.out | apply zU | apply zV | apply zW) | exact HB.out)⟩
         ·
          rw [if_neg c23] at H
          exact absurd H (by simp)
        ·
         rw [if_neg c19] at H
         exact absurd H (by simp)
       ·
        rw [if_neg c18] at H
        exact absurd H (by simp)
      ·
       rw [if_neg c17] at H
       exact absurd H (by simp)
  ·
   rw [if_neg c6] at H
   have c6b0 : (t477 == t478) = false := beq_eq_false_iff_ne.mpr c6
   have c6b1 : (t477 != t478) = true := bne_iff_ne.mpr c6
   obtain rfl := Option.some.inj H
   go_enter Try.func5, Try.ntmps5
   go_wp2_with (first | ((with_reducible refine gate_callee (f := 19) rfl ?_); refine goesL_ (some 15) rfl rfl Try.func19 (by kernel_rfl) rfl #[.slice A0 l0.length c0] rfl (by (try simp only [List.map_toArray, List.map_cons, List.map_nil]); first | done | rfl | (simp only [List.length_drop, List.length_take]; rfl)) ?_; (with_reducible refine (spec_DrawRowMany.calls k _ _ l0 t471 t472 _ ?side1 ?side2 A3.out).mono ?_); (case side1 => repeat (first | exact HR0.out | (with_reducible refine zQ ?_ _) | (with_reducible refine zO ?_ _) | (with_reducible refine zP ?_))); (case side2 => exact HC0.out); rintro e w68 ⟨v473, v475, rfl, ho0, ho1, hb⟩; refine ⟨_, rfl, ?_⟩; have n0_ := zM (Kd.N_lower (Kd.N_mono (ok' := fun k_ => some k_ ≠ (v475 : Value).ownBlock) (Kd.S_N (Kd.S_bound ho0)) (fun k_ hk_ => hk_.1)) (zI (by repeat (first | (with_reducible first | exact HB.out | apply zU | apply zV | apply zW) | exact HB.out)))); have n1_ := zM (Kd.R_lower ho1 (zI (by repeat (first | (with_reducible first | exact HB.out | apply zU | apply zV | apply zW) | exact HB.out)))); have n2_ := zM (zG (by repeat (first | (with_reducible first | exact HB.out | apply zU | apply zV | apply zW) | exact HB.out)) hb); clear HB; have HO474 := n0_; have HO476 := n1_; have HB := n2_; clear n0_ n1_ n2_; (try clear hb); (try clear hb2); (try clear hk); (try clear hi); (try clear ho0); (try clear ho1); obtain ⟨Ao69, co69, eo69⟩ := Kd.N_slice HO474.out; subst eo69; obtain ⟨Ao70, co70, eo70⟩ := Kd.R_slice HO476.out; subst eo70) | ((with_reducible refine gate_callee (f := 20) rfl ?_); refine goesL_ (some 20) rfl rfl Try.func20 (by kernel_rfl) rfl #[.slice Ao69 t471.length co69, .slice Ao70 t472.length co70] rfl (by (try simp only [List.map_toArray, List.map_cons, List.map_nil]); first | done | rfl | (simp only [List.length_drop, List.length_take]; rfl)) ?_; (with_reducible refine (impl_RowMany.calls k _ _ t471 _ _ t472 t477 _ ?side1 ?side2 ?side3 ?side4 A4.out).mono ?_); (case side1 => repeat (first | exact (Kd.N_reads' HO474.out).2.2 | (with_reducible refine zQ ?_ _) | (with_reducible refine zO ?_ _) | (with_reducible refine zP ?_))); (case side2 => exact (Kd.N_reads' HO474.out).2.1); (case side3 => repeat (first | exact (Kd.R_reads' HO476.out).2.2 | (with_reducible refine zQ ?_ _) | (with_reducible refine zO ?_ _) | (with_reducible refine zP ?_))); (case side4 => exact (Kd.R_reads' HO476.out).2.1); rintro e w' ⟨rfl, ⟨nd, rfl⟩⟩; refine ⟨_, rfl, ?_⟩) | ((with_reducible refine gate_callee (f := 21) rfl ?_); refine goesL_ (some 24) rfl rfl Try.func21 (by kernel_rfl) rfl #[.slice Ao69 t471.length co69, .slice Ao70 t472.length co70] rfl (by (try simp only [List.map_toArray, List.map_cons, List.map_nil]); first | done | rfl | (simp only [List.length_drop, List.length_take]; rfl)) ?_; (with_reducible refine (spec_RowMany.calls k _ _ t471 _ _ t472 t478 _ ?side1 ?side2 ?side3 ?side4 A5.out).mono ?_); (case side1 => repeat (first | exact (Kd.N_reads' HO474.out).2.2 | (with_reducible refine zQ ?_ _) | (with_reducible refine zO ?_ _) | (with_reducible refine zP ?_))); (case side2 => exact (Kd.N_reads' HO474.out).2.1); (case side3 => repeat (first | exact (Kd.R_reads' HO476.out).2.2 | (with_reducible refine zQ ?_ _) | (with_reducible refine zO ?_ _) | (with_reducible refine zP ?_))); (case side4 => exact (Kd.R_reads' HO476.out).2.1); rintro e w' ⟨rfl, ⟨nd, rfl⟩⟩; refine ⟨_, rfl, ?_⟩))
   go_ret
   exact ⟨by first | rfl | (simp [errW_none, errW_some] <;> rfl) | (simp [*, errW_none, errW_some] <;> rfl), by repeat (first | (with_reducible first | exact HB.out | apply zU | apply zV | apply zW) | exact HB.out)⟩

/-- THE ONE PURE STATEMENT of laws_FnRowMany. -/
def laws_FnRowMany.Pure : Prop := ∀ (l0 : List Int), ((l0.length ≤ maxLen ∧ ∀ y2_ ∈ l0, (Lit.int .u8 y2_).wf = true)) → ∃ k, laws_FnRowMany.f k l0 = some true
end

end Go.Proofs.Ytalhkihppcjanaa.X
