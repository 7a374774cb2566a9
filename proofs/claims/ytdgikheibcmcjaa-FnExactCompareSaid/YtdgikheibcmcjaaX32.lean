/- Plain functions for the Go functions of this seat, and proofs that each call answers as its plain function does; made by this session's program over the kit's printer. -/
import Derived.Test.YtdgikheibcmcjaaX0
import Derived.Test.YtdgikheibcmcjaaX3
import Derived.Test.YtdgikheibcmcjaaX4
import Derived.Test.YtdgikheibcmcjaaX10
import Derived.Test.YtdgikheibcmcjaaX31
namespace Go.Proofs.Ytdgikheibcmcjaa.X
open Go.RowKit Go.Proofs.YtdgikheibcmcjaaV.PrintWords Go.Proofs.YtdgikheibcmcjaaV.PrintLast Go.Proofs.YtdgikheibcmcjaaV.PrintMore
attribute [local go_sem] max2_int min2_int max_two min_two max_three min_three max_four min_four   -- for this text's walks alone
set_option linter.unusedVariables false
set_option linter.unusedSimpArgs false

/-! ### impl_Compare: function 44 -/
mutual
def impl_Compare.j0 : Nat → Int → Bool → Int → Int → ByteArray → Int → Int → ByteArray → Option (Int)
  | 0, _, _, _, _, _, _, _, _ => none
  | k + 1, x0, x8, x441000, x441001, x441002, x442000, x442001, x442002 => if x8 = true then (some (-1)) else (if x441000 = 0 then (impl_Compare.j1 k x0 true x441000 x441001 x441002 x442000 x442001 x442002) else (impl_Compare.j1 k x0 (x442000 == 0) x441000 x441001 x441002 x442000 x442001 x442002))
def impl_Compare.j1 : Nat → Int → Bool → Int → Int → ByteArray → Int → Int → ByteArray → Option (Int)
  | 0, _, _, _, _, _, _, _, _ => none
  | k + 1, x0, x22, x441000, x441001, x441002, x442000, x442001, x442002 => if x22 = true then (some 2) else (if x441000 = x442000 then ((impl_Value_order.f k x441000 x441001 x441002 x442000 x442001 x442002).bind fun t445 => (if x0 = 1 then (if t445 = 0 then ((impl_truthIf.f true).bind fun t446 => (some t446)) else (if x0 = 2 then ((impl_truthIf.f true).bind fun t447 => (some t447)) else (if x0 = 3 then (if t445 < 0 then ((impl_truthIf.f true).bind fun t448 => (some t448)) else (if x0 = 4 then ((impl_truthIf.f (decide (t445 ≤ 0))).bind fun t449 => (some t449)) else ((impl_truthIf.f false).bind fun t450 => (some t450)))) else (if x0 = 4 then ((impl_truthIf.f (decide (t445 ≤ 0))).bind fun t451 => (some t451)) else ((impl_truthIf.f false).bind fun t452 => (some t452)))))) else (if x0 = 2 then (if t445 = 0 then (if x0 = 3 then (if t445 < 0 then ((impl_truthIf.f true).bind fun t453 => (some t453)) else (if x0 = 4 then ((impl_truthIf.f (decide (t445 ≤ 0))).bind fun t454 => (some t454)) else ((impl_truthIf.f false).bind fun t455 => (some t455)))) else (if x0 = 4 then ((impl_truthIf.f (decide (t445 ≤ 0))).bind fun t456 => (some t456)) else ((impl_truthIf.f false).bind fun t457 => (some t457)))) else ((impl_truthIf.f true).bind fun t458 => (some t458))) else (if x0 = 3 then (if t445 < 0 then ((impl_truthIf.f true).bind fun t459 => (some t459)) else (if x0 = 4 then ((impl_truthIf.f (decide (t445 ≤ 0))).bind fun t460 => (some t460)) else ((impl_truthIf.f false).bind fun t461 => (some t461)))) else (if x0 = 4 then ((impl_truthIf.f (decide (t445 ≤ 0))).bind fun t462 => (some t462)) else ((impl_truthIf.f false).bind fun t463 => (some t463))))))) else (some (-1)))
end
def impl_Compare.f (k : Nat) (a0 : Int) (a1_0 : Int) (a1_1 : Int) (a1_2 : ByteArray) (a2_0 : Int) (a2_1 : Int) (a2_2 : ByteArray) : Option (Int) := (impl_between.f a0 1 4).bind fun t442 => (if t442 = true then ((impl_Value_ok.f a1_0 a1_1 a1_2).bind fun t443 => (if t443 = true then ((impl_Value_ok.f a2_0 a2_1 a2_2).bind fun t444 => (impl_Compare.j0 k a0 (!t444) a1_0 a1_1 a1_2 a2_0 a2_1 a2_2)) else (impl_Compare.j0 k a0 true a1_0 a1_1 a1_2 a2_0 a2_1 a2_2))) else (impl_Compare.j0 k a0 true a1_0 a1_1 a1_2 a2_0 a2_1 a2_2))
theorem impl_Compare.mono_l : ∀ k, (∀ y0 y1 y2 y3 y4 y5 y6 y7, LeO (impl_Compare.j0 k y0 y1 y2 y3 y4 y5 y6 y7) (impl_Compare.j0 (k + 1) y0 y1 y2 y3 y4 y5 y6 y7)) ∧ (∀ y0 y1 y2 y3 y4 y5 y6 y7, LeO (impl_Compare.j1 k y0 y1 y2 y3 y4 y5 y6 y7) (impl_Compare.j1 (k + 1) y0 y1 y2 y3 y4 y5 y6 y7))
  | 0 => ⟨fun _ _ _ _ _ _ _ _ r h => by simp [impl_Compare.j0] at h, fun _ _ _ _ _ _ _ _ r h => by simp [impl_Compare.j1] at h⟩
  | k + 1 => by
    obtain ⟨ih0, ih1⟩ := impl_Compare.mono_l k
    refine ⟨?_, ?_⟩
    · intro y0 y1 y2 y3 y4 y5 y6 y7
      unfold impl_Compare.j0
      repeat' first
      | (with_reducible exact ih0 _ _ _ _ _ _ _ _)
      | (with_reducible exact ih1 _ _ _ _ _ _ _ _)
      | (with_reducible exact impl_Value_order.mono _ _ _ _ _ _ _)
      | (with_reducible exact LeO.refl _)
      | (with_reducible exact LeO.none _)
      | (with_reducible refine LeO.ite ?_ ?_)
      | (with_reducible refine LeO.bind ?_ (fun _ => ?_))
      | exact ih0 _ _ _ _ _ _ _ _
      | exact ih1 _ _ _ _ _ _ _ _
      | exact impl_Value_order.mono _ _ _ _ _ _ _
      | exact LeO.none _
      | refine LeO.ite ?_ ?_
      | refine LeO.bind ?_ (fun _ => ?_)
    · intro y0 y1 y2 y3 y4 y5 y6 y7
      unfold impl_Compare.j1
      repeat' first
      | (with_reducible exact ih0 _ _ _ _ _ _ _ _)
      | (with_reducible exact ih1 _ _ _ _ _ _ _ _)
      | (with_reducible exact impl_Value_order.mono _ _ _ _ _ _ _)
      | (with_reducible exact LeO.refl _)
      | (with_reducible exact LeO.none _)
      | (with_reducible refine LeO.ite ?_ ?_)
      | (with_reducible refine LeO.bind ?_ (fun _ => ?_))
      | exact ih0 _ _ _ _ _ _ _ _
      | exact ih1 _ _ _ _ _ _ _ _
      | exact impl_Value_order.mono _ _ _ _ _ _ _
      | exact LeO.none _
      | refine LeO.ite ?_ ?_
      | refine LeO.bind ?_ (fun _ => ?_)
theorem impl_Compare.mono : ∀ a0 a1 a2 a3 a4 a5 a6 k, LeO (impl_Compare.f k a0 a1 a2 a3 a4 a5 a6) (impl_Compare.f (k + 1) a0 a1 a2 a3 a4 a5 a6) := by
  intro a0 a1 a2 a3 a4 a5 a6 k
  obtain ⟨ih0, ih1⟩ := impl_Compare.mono_l k
  unfold impl_Compare.f
  repeat' first
      | (with_reducible exact ih0 _ _ _ _ _ _ _ _)
      | (with_reducible exact ih1 _ _ _ _ _ _ _ _)
      | (with_reducible exact impl_Value_order.mono _ _ _ _ _ _ _)
      | (with_reducible exact LeO.refl _)
      | (with_reducible exact LeO.none _)
      | (with_reducible refine LeO.ite ?_ ?_)
      | (with_reducible refine LeO.bind ?_ (fun _ => ?_))
      | exact ih0 _ _ _ _ _ _ _ _
      | exact ih1 _ _ _ _ _ _ _ _
      | exact impl_Value_order.mono _ _ _ _ _ _ _
      | exact LeO.none _
      | refine LeO.ite ?_ ?_
      | refine LeO.bind ?_ (fun _ => ?_)
set_option maxHeartbeats 8000000 in
set_option maxRecDepth 100000 in
theorem impl_Compare.calls (k : Nat) (a0 : Int) (a1_0 : Int) (a1_1 : Int) (a1_2 : ByteArray) (a2_0 : Int) (a2_1 : Int) (a2_2 : ByteArray) (r : Int) (w : World) (h : impl_Compare.f k a0 a1_0 a1_1 a1_2 a2_0 a2_1 a2_2 = some r) :
    Calls Try.prog 44 #[.int .i64 a0, .agg #[.int .i64 a1_0, .int .i64 a1_1, .string a1_2], .agg #[.int .i64 a2_0, .int .i64 a2_1, .string a2_2]] w fun e w' => e = .returned (.int .i64 r) ∧ Below w.heap.size w w' := by
  have hu27 := Try.underlying27
  have HB := Aside0.mk (Below.refl w.heap.size w)
  have H : ((impl_between.f a0 1 4).bind fun t442 => (if t442 = true then ((impl_Value_ok.f a1_0 a1_1 a1_2).bind fun t443 => (if t443 = true then ((impl_Value_ok.f a2_0 a2_1 a2_2).bind fun t444 => (impl_Compare.j0 k a0 (!t444) a1_0 a1_1 a1_2 a2_0 a2_1 a2_2)) else (impl_Compare.j0 k a0 true a1_0 a1_1 a1_2 a2_0 a2_1 a2_2))) else (impl_Compare.j0 k a0 true a1_0 a1_1 a1_2 a2_0 a2_1 a2_2))) = some r := h
  clear h
  have HC4 := Aside0.mk H
  clear H
  go_enter Try.func44, Try.ntmps44
  go_upto_region 1 with (first | ((with_reducible refine gate_dst (N := 4) rfl ?_); refine box_event ?hg (N := 4) ?hd (cs := #[.int .i64 a1_0, .int .i64 a1_1, .string a1_2]) (t := 27) ?hr ?_; (case hd => rfl); (case hg => rfl); (case hr => first | (go_simp; done) | (go_simp; rfl)); intro gb440 hg w5 hbox hb; have n0_ := Aside0.mk (below_step (by repeat (first | (with_reducible first | exact HB.out | apply below_alloc | apply pw_below_drewN | apply below_drew1) | exact HB.out)) hb); have n1_ := Aside0.mk (hbox); have n2_ := Aside0.mk ((by rw [hg]; exact (below_size (by repeat (first | (with_reducible first | exact HB.out | apply below_alloc | apply pw_below_drewN | apply below_drew1) | exact HB.out))) : w.heap.size ≤ gb440)); have n3_ := Aside0.mk ((by rw [hg]; exact (below_size (by repeat (first | (with_reducible first | exact HB.out | apply below_alloc | apply pw_below_drewN | apply below_drew1) | exact HB.out))) : w.heap.size ≤ gb440)); clear HB; have HB := n0_; have BK440 := n1_; have GW440 := n2_; have GE440 := n3_; clear n0_ n1_ n2_ n3_; clear hb hbox hg) | ((with_reducible refine gate_dst (N := 5) rfl ?_); refine box_event ?hg (N := 5) ?hd (cs := #[.int .i64 a2_0, .int .i64 a2_1, .string a2_2]) (t := 27) ?hr ?_; (case hd => rfl); (case hg => rfl); (case hr => first | (go_simp; done) | (go_simp; rfl)); intro gb441 hg w6 hbox hb; have n0_ := Aside0.mk (blk_below (g := gb440) (o := .cells #[.int .i64 a1_0, .int .i64 a1_1, .string a1_2] 27 (0, 0)) (by (with_reducible repeat (first | refine blk_drewN ?_ _ | refine blk_drew ?_ | refine blk_alloc ?_ _)); exact BK440.out) hb); have n1_ := Aside0.mk (below_step (by repeat (first | (with_reducible first | exact HB.out | apply below_alloc | apply pw_below_drewN | apply below_drew1 | refine below_set ?_ GE440.out) | exact HB.out)) hb); have n2_ := Aside0.mk (hbox); have n3_ := Aside0.mk ((by rw [hg]; exact (below_size (by repeat (first | (with_reducible first | exact HB.out | apply below_alloc | apply pw_below_drewN | apply below_drew1 | refine below_set ?_ GE440.out) | exact HB.out))) : w.heap.size ≤ gb441)); have n4_ := Aside0.mk ((by rw [hg]; exact (below_size (by repeat (first | (with_reducible first | exact HB.out | apply below_alloc | apply pw_below_drewN | apply below_drew1 | refine below_set ?_ GE440.out) | exact HB.out))) : w.heap.size ≤ gb441)); have n5_ := Aside0.mk ((by rw [hg]; exact Nat.ne_of_lt (blk_lt (g := gb440) (o := .cells #[.int .i64 a1_0, .int .i64 a1_1, .string a1_2] 27 (0, 0)) (by (with_reducible repeat (first | refine blk_drewN ?_ _ | refine blk_drew ?_ | refine blk_alloc ?_ _)); exact BK440.out)) : gb440 ≠ gb441)); have n6_ := Aside0.mk ((by rw [hg]; exact Nat.ne_of_gt (blk_lt (g := gb440) (o := .cells #[.int .i64 a1_0, .int .i64 a1_1, .string a1_2] 27 (0, 0)) (by (with_reducible repeat (first | refine blk_drewN ?_ _ | refine blk_drew ?_ | refine blk_alloc ?_ _)); exact BK440.out)) : gb441 ≠ gb440)); clear BK440; clear HB; have BK440 := n0_; have HB := n1_; have BK441 := n2_; have GW441 := n3_; have GE441 := n4_; have NB440_441 := n5_; have NB441_440 := n6_; clear n0_ n1_ n2_ n3_ n4_ n5_ n6_; clear hb hbox hg))
  (try simp only [Act.put, List.setIfInBounds_toArray, List.set_cons_zero, List.set_cons_succ])
  go_cut [8] (fun v8 wc => ∃ (kq : Nat) (x8_3 : Bool), v8 = .bool x8_3 ∧ Aside0 (impl_Compare.j0 kq a0 x8_3 a1_0 a1_1 a1_2 a2_0 a2_1 a2_2 = some r) ∧ Aside0 (kq ≤ k) ∧ Aside0 (wc.heap[gb440]? = some (.cells #[.int .i64 a1_0, .int .i64 a1_1, .string a1_2] 27 (0, 0))) ∧ Aside0 (wc.heap[gb441]? = some (.cells #[.int .i64 a2_0, .int .i64 a2_1, .string a2_2] 27 (0, 0))) ∧ Aside0 (Below w.heap.size w wc))
  case first =>
    have H := HC4.out
    clear HC4
    replace H := Option.bind_eq_some_iff.mp H
    obtain ⟨t442, A70, H⟩ := H
    replace H : (if t442 = true then ((impl_Value_ok.f a1_0 a1_1 a1_2).bind fun t443 => (if t443 = true then ((impl_Value_ok.f a2_0 a2_1 a2_2).bind fun t444 => (impl_Compare.j0 k a0 (!t444) a1_0 a1_1 a1_2 a2_0 a2_1 a2_2)) else (impl_Compare.j0 k a0 true a1_0 a1_1 a1_2 a2_0 a2_1 a2_2))) else (impl_Compare.j0 k a0 true a1_0 a1_1 a1_2 a2_0 a2_1 a2_2)) = some r := H
    have A7 := Aside0.mk A70
    clear A70
    by_cases c8 : t442 = true
    · subst c8
      have H1 : ((impl_Value_ok.f a1_0 a1_1 a1_2).bind fun t443 => (if t443 = true then ((impl_Value_ok.f a2_0 a2_1 a2_2).bind fun t444 => (impl_Compare.j0 k a0 (!t444) a1_0 a1_1 a1_2 a2_0 a2_1 a2_2)) else (impl_Compare.j0 k a0 true a1_0 a1_1 a1_2 a2_0 a2_1 a2_2))) = some r := by rw [if_pos rfl] at H; exact H
      clear H
      have H := H1
      clear H1
      replace H := Option.bind_eq_some_iff.mp H
      obtain ⟨t443, A90, H⟩ := H
      replace H : (if t443 = true then ((impl_Value_ok.f a2_0 a2_1 a2_2).bind fun t444 => (impl_Compare.j0 k a0 (!t444) a1_0 a1_1 a1_2 a2_0 a2_1 a2_2)) else (impl_Compare.j0 k a0 true a1_0 a1_1 a1_2 a2_0 a2_1 a2_2)) = some r := H
      have A9 := Aside0.mk A90
      clear A90
      by_cases c10 : t443 = true
      · subst c10
        have H1 : ((impl_Value_ok.f a2_0 a2_1 a2_2).bind fun t444 => (impl_Compare.j0 k a0 (!t444) a1_0 a1_1 a1_2 a2_0 a2_1 a2_2)) = some r := by rw [if_pos rfl] at H; exact H
        clear H
        have H := H1
        clear H1
        replace H := Option.bind_eq_some_iff.mp H
        obtain ⟨t444, A110, H⟩ := H
        replace H : (impl_Compare.j0 k a0 (!t444) a1_0 a1_1 a1_2 a2_0 a2_1 a2_2) = some r := H
        have A11 := Aside0.mk A110
        clear A110
        have H' := Aside0.mk H
        clear H
        go_wp2_with (first | ((with_reducible refine gate_callee (f := 53) rfl ?_); refine goesL_ (some 10) rfl rfl Try.func53 (by kernel_rfl) rfl #[.int .i64 a0, .int .i64 1, .int .i64 4] rfl (by (try simp only [List.map_toArray, List.map_cons, List.map_nil]); first | done | rfl | (simp only [List.length_drop, List.length_take]; rfl)) ?_; (with_reducible refine (impl_between.calls a0 1 4 true _ A7.out).mono ?_); rintro e w' ⟨rfl, ⟨nd, rfl⟩⟩; refine ⟨_, rfl, ?_⟩; have hnb12 := NB440_441.out; have hnc12 := NB441_440.out; have hcz13_0 : w6.cell? ⟨gb440, 0, none⟩ = some (.int .i64 a1_0) := (blk_cell BK440.out 0).trans rfl; have hcz13_1 : w6.cell? ⟨gb440, 1, none⟩ = some (.int .i64 a1_1) := (blk_cell BK440.out 1).trans rfl; have hcz13_2 : w6.cell? ⟨gb440, 2, none⟩ = some (.string a1_2) := (blk_cell BK440.out 2).trans rfl; have hfz13_0 := blk_frozen BK440.out 0; have hfz13_1 := blk_frozen BK440.out 1; have hfz13_2 := blk_frozen BK440.out 2) | (go_at_call 46; (with_reducible refine (impl_Value_ok.calls a1_0 a1_1 a1_2 true _ A9.out).mono ?_); rintro e w14 ⟨rfl, hb⟩; have n0_ := Aside0.mk (blk_below (g := gb440) (o := .cells #[.int .i64 a1_0, .int .i64 a1_1, .string a1_2] 27 (0, 0)) (by (with_reducible repeat (first | refine blk_drewN ?_ _ | refine blk_drew ?_ | refine blk_alloc ?_ _)); exact BK440.out) hb); have n1_ := Aside0.mk (blk_below (g := gb441) (o := .cells #[.int .i64 a2_0, .int .i64 a2_1, .string a2_2] 27 (0, 0)) (by (with_reducible repeat (first | refine blk_drewN ?_ _ | refine blk_drew ?_ | refine blk_alloc ?_ _)); exact BK441.out) hb); have n2_ := Aside0.mk (below_step (by repeat (first | (with_reducible first | exact HB.out | apply below_alloc | apply pw_below_drewN | apply below_drew1 | refine below_set ?_ GE440.out | refine below_set ?_ GE441.out) | exact HB.out)) hb); clear BK440; clear BK441; clear HB; have BK440 := n0_; have BK441 := n1_; have HB := n2_; clear n0_ n1_ n2_; (try clear hb); (try clear hb2); (try clear hk); (try clear hi); have hcz15_0 : w14.cell? ⟨gb441, 0, none⟩ = some (.int .i64 a2_0) := (blk_cell BK441.out 0).trans rfl; have hcz15_1 : w14.cell? ⟨gb441, 1, none⟩ = some (.int .i64 a2_1) := (blk_cell BK441.out 1).trans rfl; have hcz15_2 : w14.cell? ⟨gb441, 2, none⟩ = some (.string a2_2) := (blk_cell BK441.out 2).trans rfl; have hfz15_0 := blk_frozen BK441.out 0; have hfz15_1 := blk_frozen BK441.out 1; have hfz15_2 := blk_frozen BK441.out 2) | (go_at_call 46; (with_reducible refine (impl_Value_ok.calls a2_0 a2_1 a2_2 t444 _ A11.out).mono ?_); rintro e w16 ⟨rfl, hb⟩; have n0_ := Aside0.mk (blk_below (g := gb440) (o := .cells #[.int .i64 a1_0, .int .i64 a1_1, .string a1_2] 27 (0, 0)) (by (with_reducible repeat (first | refine blk_drewN ?_ _ | refine blk_drew ?_ | refine blk_alloc ?_ _)); exact BK440.out) hb); have n1_ := Aside0.mk (blk_below (g := gb441) (o := .cells #[.int .i64 a2_0, .int .i64 a2_1, .string a2_2] 27 (0, 0)) (by (with_reducible repeat (first | refine blk_drewN ?_ _ | refine blk_drew ?_ | refine blk_alloc ?_ _)); exact BK441.out) hb); have n2_ := Aside0.mk (below_step (by repeat (first | (with_reducible first | exact HB.out | apply below_alloc | apply pw_below_drewN | apply below_drew1 | refine below_set ?_ GE440.out | refine below_set ?_ GE441.out) | exact HB.out)) hb); clear BK440; clear BK441; clear HB; have BK440 := n0_; have BK441 := n1_; have HB := n2_; clear n0_ n1_ n2_; (try clear hb); (try clear hb2); (try clear hk); (try clear hi)))
        go_meet
        case rel => exact ⟨_, (!t444), (by first | rfl | (simp; done) | (simp [*]; done)), H', ⟨by first | omega | exact Nat.le_refl _⟩, ⟨by (with_reducible repeat (first | refine blk_drewN ?_ _ | refine blk_drew ?_ | refine blk_alloc ?_ _)); exact BK440.out⟩, ⟨by (with_reducible repeat (first | refine blk_drewN ?_ _ | refine blk_drew ?_ | refine blk_alloc ?_ _)); exact BK441.out⟩, ⟨by repeat (first | (with_reducible first | exact HB.out | apply below_alloc | apply pw_below_drewN | apply below_drew1 | refine below_set ?_ GE440.out | refine below_set ?_ GE441.out) | exact HB.out)⟩⟩
      · replace c10 := Bool.eq_false_iff.mpr c10
        subst c10
        have H1 : (impl_Compare.j0 k a0 true a1_0 a1_1 a1_2 a2_0 a2_1 a2_2) = some r := by rw [if_neg (show ¬ (false = true) by decide)] at H; exact H
        clear H
        have H := H1
        clear H1
        have H' := Aside0.mk H
        clear H
        go_wp2_with (first | ((with_reducible refine gate_callee (f := 53) rfl ?_); refine goesL_ (some 10) rfl rfl Try.func53 (by kernel_rfl) rfl #[.int .i64 a0, .int .i64 1, .int .i64 4] rfl (by (try simp only [List.map_toArray, List.map_cons, List.map_nil]); first | done | rfl | (simp only [List.length_drop, List.length_take]; rfl)) ?_; (with_reducible refine (impl_between.calls a0 1 4 true _ A7.out).mono ?_); rintro e w' ⟨rfl, ⟨nd, rfl⟩⟩; refine ⟨_, rfl, ?_⟩; have hnb17 := NB440_441.out; have hnc17 := NB441_440.out; have hcz18_0 : w6.cell? ⟨gb440, 0, none⟩ = some (.int .i64 a1_0) := (blk_cell BK440.out 0).trans rfl; have hcz18_1 : w6.cell? ⟨gb440, 1, none⟩ = some (.int .i64 a1_1) := (blk_cell BK440.out 1).trans rfl; have hcz18_2 : w6.cell? ⟨gb440, 2, none⟩ = some (.string a1_2) := (blk_cell BK440.out 2).trans rfl; have hfz18_0 := blk_frozen BK440.out 0; have hfz18_1 := blk_frozen BK440.out 1; have hfz18_2 := blk_frozen BK440.out 2) | (go_at_call 46; (with_reducible refine (impl_Value_ok.calls a1_0 a1_1 a1_2 false _ A9.out).mono ?_); rintro e w19 ⟨rfl, hb⟩; have n0_ := Aside0.mk (blk_below (g := gb440) (o := .cells #[.int .i64 a1_0, .int .i64 a1_1, .string a1_2] 27 (0, 0)) (by (with_reducible repeat (first | refine blk_drewN ?_ _ | refine blk_drew ?_ | refine blk_alloc ?_ _)); exact BK440.out) hb); have n1_ := Aside0.mk (blk_below (g := gb441) (o := .cells #[.int .i64 a2_0, .int .i64 a2_1, .string a2_2] 27 (0, 0)) (by (with_reducible repeat (first | refine blk_drewN ?_ _ | refine blk_drew ?_ | refine blk_alloc ?_ _)); exact BK441.out) hb); have n2_ := Aside0.mk (below_step (by repeat (first | (with_reducible first | exact HB.out | apply below_alloc | apply pw_below_drewN | apply below_drew1 | refine below_set ?_ GE440.out | refine below_set ?_ GE441.out) | exact HB.out)) hb); clear BK440; clear BK441; clear HB; have BK440 := n0_; have BK441 := n1_; have HB := n2_; clear n0_ n1_ n2_; (try clear hb); (try clear hb2); (try clear hk); (try clear hi)))
        go_meet
        case rel => exact ⟨_, (true), (by first | rfl | (simp; done) | (simp [*]; done)), H', ⟨by first | omega | exact Nat.le_refl _⟩, ⟨by (with_reducible repeat (first | refine blk_drewN ?_ _ | refine blk_drew ?_ | refine blk_alloc ?_ _)); exact BK440.out⟩, ⟨by (with_reducible repeat (first | refine blk_drewN ?_ _ | refine blk_drew ?_ | refine blk_alloc ?_ _)); exact BK441.out⟩, ⟨by repeat (first | (with_reducible first | exact HB.out | apply below_alloc | apply pw_below_drewN | apply below_drew1 | refine below_set ?_ GE440.out | refine below_set ?_ GE441.out) | exact HB.out)⟩⟩
    · replace c8 := Bool.eq_false_iff.mpr c8
      subst c8
      have H1 : (impl_Compare.j0 k a0 true a1_0 a1_1 a1_2 a2_0 a2_1 a2_2) = some r := by rw [if_neg (show ¬ (false = true) by decide)] at H; exact H
      clear H
      have H := H1
      clear H1
      have H' := Aside0.mk H
      clear H
      go_wp2_with (first | ((with_reducible refine gate_callee (f := 53) rfl ?_); refine goesL_ (some 10) rfl rfl Try.func53 (by kernel_rfl) rfl #[.int .i64 a0, .int .i64 1, .int .i64 4] rfl (by (try simp only [List.map_toArray, List.map_cons, List.map_nil]); first | done | rfl | (simp only [List.length_drop, List.length_take]; rfl)) ?_; (with_reducible refine (impl_between.calls a0 1 4 false _ A7.out).mono ?_); rintro e w' ⟨rfl, ⟨nd, rfl⟩⟩; refine ⟨_, rfl, ?_⟩))
      go_meet
      case rel => exact ⟨_, (true), (by first | rfl | (simp; done) | (simp [*]; done)), H', ⟨by first | omega | exact Nat.le_refl _⟩, ⟨by (with_reducible repeat (first | refine blk_drewN ?_ _ | refine blk_drew ?_ | refine blk_alloc ?_ _)); exact BK440.out⟩, ⟨by (with_reducible repeat (first | refine blk_drewN ?_ _ | refine blk_drew ?_ | refine blk_alloc ?_ _)); exact BK441.out⟩, ⟨by repeat (first | (with_reducible first | exact HB.out | apply below_alloc | apply pw_below_drewN | apply below_drew1 | refine below_set ?_ GE440.out | refine below_set ?_ GE441.out) | exact HB.out)⟩⟩
  case rest =>
    clear HC4
    try clear c1
    try clear p2
    try clear c4
    try clear c5
    try clear c8
    try clear c10
    try clear c12
    try clear c17
    try clear hcz13_0
    try clear hcz13_1
    try clear hcz13_2
    try clear hcz15_0
    try clear hcz15_1
    try clear hcz15_2
    try clear hcz18_0
    try clear hcz18_1
    try clear hcz18_2
    try clear hfz13_0
    try clear hfz13_1
    try clear hfz13_2
    try clear hfz15_0
    try clear hfz15_1
    try clear hfz15_2
    try clear hfz18_0
    try clear hfz18_1
    try clear hfz18_2
    obtain ⟨kq, x8_3, rfl, HA, HJ3, BK440, BK441, HB⟩ := hcut
    cases kq with
    | zero => exact absurd HA.out (by simp [impl_Compare.j0])
    | succ kj3 =>
      have H := HA.out
      clear HA
      simp only [impl_Compare.j0] at H
      by_cases c20 : x8_3 = true
      · subst c20
        have H1 : (some (-1)) = some r := by rw [if_pos rfl] at H; exact H
        clear H
        have H := H1
        clear H1
        obtain rfl := Option.some.inj H
        go_wp2
        go_ret
        exact ⟨by first | rfl | (simp [errW_none, errW_some] <;> rfl) | (simp [*, errW_none, errW_some] <;> rfl), by repeat (first | (with_reducible first | exact HB.out | apply below_alloc | apply pw_below_drewN | apply below_drew1 | refine below_set ?_ GE440.out | refine below_set ?_ GE441.out) | exact HB.out)⟩
      · replace c20 := Bool.eq_false_iff.mpr c20
        subst c20
        have H1 : (if a1_0 = 0 then (impl_Compare.j1 kj3 a0 true a1_0 a1_1 a1_2 a2_0 a2_1 a2_2) else (impl_Compare.j1 kj3 a0 (a2_0 == 0) a1_0 a1_1 a1_2 a2_0 a2_1 a2_2)) = some r := by rw [if_neg (show ¬ (false = true) by decide)] at H; exact H
        clear H
        have H := H1
        clear H1
        have HC21 := Aside0.mk H
        clear H
        go_upto_region 3 with (fail)
        go_cut [22] (fun v22 wc => ∃ (kq : Nat) (x22_20 : Bool), v22 = .bool x22_20 ∧ Aside0 (impl_Compare.j1 kq a0 x22_20 a1_0 a1_1 a1_2 a2_0 a2_1 a2_2 = some r) ∧ Aside0 (kq ≤ kj3) ∧ Aside0 (wc.heap[gb440]? = some (.cells #[.int .i64 a1_0, .int .i64 a1_1, .string a1_2] 27 (0, 0))) ∧ Aside0 (wc.heap[gb441]? = some (.cells #[.int .i64 a2_0, .int .i64 a2_1, .string a2_2] 27 (0, 0))) ∧ Aside0 (Below w.heap.size w wc))
        case first =>
          have H := HC21.out
          clear HC21
          by_cases c22 : a1_0 = 0
          · rw [if_pos c22] at H
            have c22b0 : (a1_0 == 0) = true := beq_iff_eq.mpr c22
            have c22b1 : (a1_0 != 0) = false := bne_eq_false_iff_eq.mpr c22
            clear c22
            (first | rw [c22b0] | (simp only [i64_w, i32_w]; rw [c22b0]) | skip)
            have H' := Aside0.mk H
            clear H
            have hnb23 := NB440_441.out
            have hnc23 := NB441_440.out
            have hcz24_0 : wc.cell? ⟨gb440, 0, none⟩ = some (.int .i64 a1_0) := (blk_cell BK440.out 0).trans rfl
            have hcz24_1 : wc.cell? ⟨gb440, 1, none⟩ = some (.int .i64 a1_1) := (blk_cell BK440.out 1).trans rfl
            have hcz24_2 : wc.cell? ⟨gb440, 2, none⟩ = some (.string a1_2) := (blk_cell BK440.out 2).trans rfl
            have hfz24_0 := blk_frozen BK440.out 0
            have hfz24_1 := blk_frozen BK440.out 1
            have hfz24_2 := blk_frozen BK440.out 2
            go_wp2
            go_meet
            case rel => exact ⟨_, (true), (by first | rfl | (simp; done) | (simp [*]; done)), H', ⟨by have := HJ3.out; first | omega | exact Nat.le_refl _⟩, ⟨by (with_reducible repeat (first | refine blk_drewN ?_ _ | refine blk_drew ?_ | refine blk_alloc ?_ _)); exact BK440.out⟩, ⟨by (with_reducible repeat (first | refine blk_drewN ?_ _ | refine blk_drew ?_ | refine blk_alloc ?_ _)); exact BK441.out⟩, ⟨by repeat (first | (with_reducible first | exact HB.out | apply below_alloc | apply pw_below_drewN | apply below_drew1 | refine below_set ?_ GE440.out | refine below_set ?_ GE441.out) | exact HB.out)⟩⟩
          · rw [if_neg c22] at H
            have c22b0 : (a1_0 == 0) = false := beq_eq_false_iff_ne.mpr c22
            have c22b1 : (a1_0 != 0) = true := bne_iff_ne.mpr c22
            (first | rw [c22b0] | (simp only [i64_w, i32_w]; rw [c22b0]) | skip)
            have H' := Aside0.mk H
            clear H
            have hnb25 := NB440_441.out
            have hnc25 := NB441_440.out
            have hcz26_0 : wc.cell? ⟨gb440, 0, none⟩ = some (.int .i64 a1_0) := (blk_cell BK440.out 0).trans rfl
            have hcz26_1 : wc.cell? ⟨gb440, 1, none⟩ = some (.int .i64 a1_1) := (blk_cell BK440.out 1).trans rfl
            have hcz26_2 : wc.cell? ⟨gb440, 2, none⟩ = some (.string a1_2) := (blk_cell BK440.out 2).trans rfl
            have hfz26_0 := blk_frozen BK440.out 0
            have hfz26_1 := blk_frozen BK440.out 1
            have hfz26_2 := blk_frozen BK440.out 2
            have hcz27_0 : wc.cell? ⟨gb441, 0, none⟩ = some (.int .i64 a2_0) := (blk_cell BK441.out 0).trans rfl
            have hcz27_1 : wc.cell? ⟨gb441, 1, none⟩ = some (.int .i64 a2_1) := (blk_cell BK441.out 1).trans rfl
            have hcz27_2 : wc.cell? ⟨gb441, 2, none⟩ = some (.string a2_2) := (blk_cell BK441.out 2).trans rfl
            have hfz27_0 := blk_frozen BK441.out 0
            have hfz27_1 := blk_frozen BK441.out 1
            have hfz27_2 := blk_frozen BK441.out 2
            go_wp2
            go_meet
            case rel => exact ⟨_, ((a2_0 == 0)), (by first | rfl | (simp; done) | (simp [*]; done)), H', ⟨by have := HJ3.out; first | omega | exact Nat.le_refl _⟩, ⟨by (with_reducible repeat (first | refine blk_drewN ?_ _ | refine blk_drew ?_ | refine blk_alloc ?_ _)); exact BK440.out⟩, ⟨by (with_reducible repeat (first | refine blk_drewN ?_ _ | refine blk_drew ?_ | refine blk_alloc ?_ _)); exact BK441.out⟩, ⟨by repeat (first | (with_reducible first | exact HB.out | apply below_alloc | apply pw_below_drewN | apply below_drew1 | refine below_set ?_ GE440.out | refine below_set ?_ GE441.out) | exact HB.out)⟩⟩
        case rest =>
          clear HC21
          try clear c1
          try clear c2
          try clear p2
          try clear c4
          try clear c5
          try clear c8
          try clear c10
          try clear c12
          try clear c17
          try clear c20
          try clear c22
          try clear c22b0
          try clear c22b1
          try clear c23
          try clear c25
          try clear hcz13_0
          try clear hcz13_1
          try clear hcz13_2
          try clear hcz15_0
          try clear hcz15_1
          try clear hcz15_2
          try clear hcz18_0
          try clear hcz18_1
          try clear hcz18_2
          try clear hcz24_0
          try clear hcz24_1
          try clear hcz24_2
          try clear hcz26_0
          try clear hcz26_1
          try clear hcz26_2
          try clear hcz27_0
          try clear hcz27_1
          try clear hcz27_2
          try clear hfz13_0
          try clear hfz13_1
          try clear hfz13_2
          try clear hfz15_0
          try clear hfz15_1
          try clear hfz15_2
          try clear hfz18_0
          try clear hfz18_1
          try clear hfz18_2
          try clear hfz24_0
          try clear hfz24_1
          try clear hfz24_2
          try clear hfz26_0
          try clear hfz26_1
          try clear hfz26_2
          try clear hfz27_0
          try clear hfz27_1
          try clear hfz27_2
          try clear p2
          obtain ⟨kq, x22_20, rfl, HA, HJ20, BK440, BK441, HB⟩ := hcut
          cases kq with
          | zero => exact absurd HA.out (by simp [impl_Compare.j1])
          | succ kj20 =>
            have H := HA.out
            clear HA
            simp only [impl_Compare.j1] at H
            by_cases c28 : x22_20 = true
            · subst c28
              have H1 : (some 2) = some r := by rw [if_pos rfl] at H; exact H
              clear H
              have H := H1
              clear H1
              obtain rfl := Option.some.inj H
              go_wp2
              go_ret
              exact ⟨by first | rfl | (simp [errW_none, errW_some] <;> rfl) | (simp [*, errW_none, errW_some] <;> rfl), by repeat (first | (with_reducible first | exact HB.out | apply below_alloc | apply pw_below_drewN | apply below_drew1 | refine below_set ?_ GE440.out | refine below_set ?_ GE441.out) | exact HB.out)⟩
            · replace c28 := Bool.eq_false_iff.mpr c28
              subst c28
              have H1 : (if a1_0 = a2_0 then ((impl_Value_order.f kj20 a1_0 a1_1 a1_2 a2_0 a2_1 a2_2).bind fun t445 => (if a0 = 1 then (if t445 = 0 then ((impl_truthIf.f true).bind fun t446 => (some t446)) else (if a0 = 2 then ((impl_truthIf.f true).bind fun t447 => (some t447)) else (if a0 = 3 then (if t445 < 0 then ((impl_truthIf.f true).bind fun t448 => (some t448)) else (if a0 = 4 then ((impl_truthIf.f (decide (t445 ≤ 0))).bind fun t449 => (some t449)) else ((impl_truthIf.f false).bind fun t450 => (some t450)))) else (if a0 = 4 then ((impl_truthIf.f (decide (t445 ≤ 0))).bind fun t451 => (some t451)) else ((impl_truthIf.f false).bind fun t452 => (some t452)))))) else (if a0 = 2 then (if t445 = 0 then (if a0 = 3 then (if t445 < 0 then ((impl_truthIf.f true).bind fun t453 => (some t453)) else (if a0 = 4 then ((impl_truthIf.f (decide (t445 ≤ 0))).bind fun t454 => (some t454)) else ((impl_truthIf.f false).bind fun t455 => (some t455)))) else (if a0 = 4 then ((impl_truthIf.f (decide (t445 ≤ 0))).bind fun t456 => (some t456)) else ((impl_truthIf.f false).bind fun t457 => (some t457)))) else ((impl_truthIf.f true).bind fun t458 => (some t458))) else (if a0 = 3 then (if t445 < 0 then ((impl_truthIf.f true).bind fun t459 => (some t459)) else (if a0 = 4 then ((impl_truthIf.f (decide (t445 ≤ 0))).bind fun t460 => (some t460)) else ((impl_truthIf.f false).bind fun t461 => (some t461)))) else (if a0 = 4 then ((impl_truthIf.f (decide (t445 ≤ 0))).bind fun t462 => (some t462)) else ((impl_truthIf.f false).bind fun t463 => (some t463))))))) else (some (-1))) = some r := by rw [if_neg (show ¬ (false = true) by decide)] at H; exact H
              clear H
              have H := H1
              clear H1
              by_cases c29 : a1_0 = a2_0
              · rw [if_pos c29] at H
                have c29b0 : (a1_0 == a2_0) = true := beq_iff_eq.mpr c29
                have c29b1 : (a1_0 != a2_0) = false := bne_eq_false_iff_eq.mpr c29
                clear c29
                replace H := Option.bind_eq_some_iff.mp H
                obtain ⟨t445, A300, H⟩ := H
                replace H : (if a0 = 1 then (if t445 = 0 then ((impl_truthIf.f true).bind fun t446 => (some t446)) else (if a0 = 2 then ((impl_truthIf.f true).bind fun t447 => (some t447)) else (if a0 = 3 then (if t445 < 0 then ((impl_truthIf.f true).bind fun t448 => (some t448)) else (if a0 = 4 then ((impl_truthIf.f (decide (t445 ≤ 0))).bind fun t449 => (some t449)) else ((impl_truthIf.f false).bind fun t450 => (some t450)))) else (if a0 = 4 then ((impl_truthIf.f (decide (t445 ≤ 0))).bind fun t451 => (some t451)) else ((impl_truthIf.f false).bind fun t452 => (some t452)))))) else (if a0 = 2 then (if t445 = 0 then (if a0 = 3 then (if t445 < 0 then ((impl_truthIf.f true).bind fun t453 => (some t453)) else (if a0 = 4 then ((impl_truthIf.f (decide (t445 ≤ 0))).bind fun t454 => (some t454)) else ((impl_truthIf.f false).bind fun t455 => (some t455)))) else (if a0 = 4 then ((impl_truthIf.f (decide (t445 ≤ 0))).bind fun t456 => (some t456)) else ((impl_truthIf.f false).bind fun t457 => (some t457)))) else ((impl_truthIf.f true).bind fun t458 => (some t458))) else (if a0 = 3 then (if t445 < 0 then ((impl_truthIf.f true).bind fun t459 => (some t459)) else (if a0 = 4 then ((impl_truthIf.f (decide (t445 ≤ 0))).bind fun t460 => (some t460)) else ((impl_truthIf.f false).bind fun t461 => (some t461)))) else (if a0 = 4 then ((impl_truthIf.f (decide (t445 ≤ 0))).bind fun t462 => (some t462)) else ((impl_truthIf.f false).bind fun t463 => (some t463)))))) = some r := H
                have A30 := Aside0.mk A300
                clear A300
                by_cases c31 : a0 = 1
                · rw [if_pos c31] at H
                  have c31b0 : (a0 == 1) = true := beq_iff_eq.mpr c31
                  have c31b1 : (a0 != 1) = false := bne_eq_false_iff_eq.mpr c31
                  clear c31
                  by_cases c32 : t445 = 0
                  · rw [if_pos c32] at H
                    have c32b0 : (t445 == 0) = true := beq_iff_eq.mpr c32
                    have c32b1 : (t445 != 0) = false := bne_eq_false_iff_eq.mpr c32
                    clear c32
                    replace H := Option.bind_eq_some_iff.mp H
                    obtain ⟨t446, A330, H⟩ := H
                    replace H : (some t446) = some r := H
                    have A33 := Aside0.mk A330
                    clear A330
                    obtain rfl := Option.some.inj H
                    have hnb34 := NB440_441.out
                    have hnc34 := NB441_440.out
                    have hcz35_0 : wc.cell? ⟨gb440, 0, none⟩ = some (.int .i64 a1_0) := (blk_cell BK440.out 0).trans rfl
                    have hcz35_1 : wc.cell? ⟨gb440, 1, none⟩ = some (.int .i64 a1_1) := (blk_cell BK440.out 1).trans rfl
                    have hcz35_2 : wc.cell? ⟨gb440, 2, none⟩ = some (.string a1_2) := (blk_cell BK440.out 2).trans rfl
                    have hfz35_0 := blk_frozen BK440.out 0
                    have hfz35_1 := blk_frozen BK440.out 1
                    have hfz35_2 := blk_frozen BK440.out 2
                    have hcz36_0 : wc.cell? ⟨gb441, 0, none⟩ = some (.int .i64 a2_0) := (blk_cell BK441.out 0).trans rfl
                    have hcz36_1 : wc.cell? ⟨gb441, 1, none⟩ = some (.int .i64 a2_1) := (blk_cell BK441.out 1).trans rfl
                    have hcz36_2 : wc.cell? ⟨gb441, 2, none⟩ = some (.string a2_2) := (blk_cell BK441.out 2).trans rfl
                    have hfz36_0 := blk_frozen BK441.out 0
                    have hfz36_1 := blk_frozen BK441.out 1
                    have hfz36_2 := blk_frozen BK441.out 2
                    go_wp2_with (first | ((with_reducible refine gate_callee (f := 51) rfl ?_); refine goesL_ (some 39) rfl rfl Try.func51 (by kernel_rfl) rfl #[.agg #[.int .i64 a1_0, .int .i64 a1_1, .string a1_2], .agg #[.int .i64 a2_0, .int .i64 a2_1, .string a2_2]] rfl (by (try simp only [List.map_toArray, List.map_cons, List.map_nil]); first | done | rfl | (simp only [List.length_drop, List.length_take]; rfl)) ?_; (with_reducible refine (impl_Value_order.calls kj20 a1_0 a1_1 a1_2 a2_0 a2_1 a2_2 t445 _ A30.out).mono ?_); rintro e w37 ⟨rfl, hb⟩; refine ⟨_, rfl, ?_⟩; have n0_ := Aside0.mk (blk_below (g := gb440) (o := .cells #[.int .i64 a1_0, .int .i64 a1_1, .string a1_2] 27 (0, 0)) (by (with_reducible repeat (first | refine blk_drewN ?_ _ | refine blk_drew ?_ | refine blk_alloc ?_ _)); exact BK440.out) hb); have n1_ := Aside0.mk (blk_below (g := gb441) (o := .cells #[.int .i64 a2_0, .int .i64 a2_1, .string a2_2] 27 (0, 0)) (by (with_reducible repeat (first | refine blk_drewN ?_ _ | refine blk_drew ?_ | refine blk_alloc ?_ _)); exact BK441.out) hb); have n2_ := Aside0.mk (below_step (by repeat (first | (with_reducible first | exact HB.out | apply below_alloc | apply pw_below_drewN | apply below_drew1 | refine below_set ?_ GE440.out | refine below_set ?_ GE441.out) | exact HB.out)) hb); clear BK440; clear BK441; clear HB; have BK440 := n0_; have BK441 := n1_; have HB := n2_; clear n0_ n1_ n2_; (try clear hb); (try clear hb2); (try clear hk); (try clear hi)) | ((with_reducible refine gate_callee (f := 59) rfl ?_); refine goesL_ (some 70) rfl rfl Try.func59 (by kernel_rfl) rfl #[.bool true] rfl (by (try simp only [List.map_toArray, List.map_cons, List.map_nil]); first | done | rfl | (simp only [List.length_drop, List.length_take]; rfl)) ?_; (with_reducible refine (impl_truthIf.calls true t446 _ A33.out).mono ?_); rintro e w' ⟨rfl, ⟨nd, rfl⟩⟩; refine ⟨_, rfl, ?_⟩))
                    go_ret
                    exact ⟨by first | rfl | (simp [errW_none, errW_some] <;> rfl) | (simp [*, errW_none, errW_some] <;> rfl), by repeat (first | (with_reducible first | exact HB.out | apply below_alloc | apply pw_below_drewN | apply below_drew1 | refine below_set ?_ GE440.out | refine below_set ?_ GE441.out) | exact HB.out)⟩
                  · rw [if_neg c32] at H
                    have c32b0 : (t445 == 0) = false := beq_eq_false_iff_ne.mpr c32
                    have c32b1 : (t445 != 0) = true := bne_iff_ne.mpr c32
                    by_cases c38 : a0 = 2
                    · rw [if_pos c38] at H
                      have c38b0 : (a0 == 2) = true := beq_iff_eq.mpr c38
                      have c38b1 : (a0 != 2) = false := bne_eq_false_iff_eq.mpr c38
                      clear c38
                      replace H := Option.bind_eq_some_iff.mp H
                      obtain ⟨t447, A390, H⟩ := H
                      replace H : (some t447) = some r := H
                      have A39 := Aside0.mk A390
                      clear A390
                      obtain rfl := Option.some.inj H
                      have hnb40 := NB440_441.out
                      have hnc40 := NB441_440.out
                      have hcz41_0 : wc.cell? ⟨gb440, 0, none⟩ = some (.int .i64 a1_0) := (blk_cell BK440.out 0).trans rfl
                      have hcz41_1 : wc.cell? ⟨gb440, 1, none⟩ = some (.int .i64 a1_1) := (blk_cell BK440.out 1).trans rfl
                      have hcz41_2 : wc.cell? ⟨gb440, 2, none⟩ = some (.string a1_2) := (blk_cell BK440.out 2).trans rfl
                      have hfz41_0 := blk_frozen BK440.out 0
                      have hfz41_1 := blk_frozen BK440.out 1
                      have hfz41_2 := blk_frozen BK440.out 2
                      have hcz42_0 : wc.cell? ⟨gb441, 0, none⟩ = some (.int .i64 a2_0) := (blk_cell BK441.out 0).trans rfl
                      have hcz42_1 : wc.cell? ⟨gb441, 1, none⟩ = some (.int .i64 a2_1) := (blk_cell BK441.out 1).trans rfl
                      have hcz42_2 : wc.cell? ⟨gb441, 2, none⟩ = some (.string a2_2) := (blk_cell BK441.out 2).trans rfl
                      have hfz42_0 := blk_frozen BK441.out 0
                      have hfz42_1 := blk_frozen BK441.out 1
                      have hfz42_2 := blk_frozen BK441.out 2
                      go_wp2_with (first | ((with_reducible refine gate_callee (f := 51) rfl ?_); refine goesL_ (some 39) rfl rfl Try.func51 (by kernel_rfl) rfl #[.agg #[.int .i64 a1_0, .int .i64 a1_1, .string a1_2], .agg #[.int .i64 a2_0, .int .i64 a2_1, .string a2_2]] rfl (by (try simp only [List.map_toArray, List.map_cons, List.map_nil]); first | done | rfl | (simp only [List.length_drop, List.length_take]; rfl)) ?_; (with_reducible refine (impl_Value_order.calls kj20 a1_0 a1_1 a1_2 a2_0 a2_1 a2_2 t445 _ A30.out).mono ?_); rintro e w43 ⟨rfl, hb⟩; refine ⟨_, rfl, ?_⟩; have n0_ := Aside0.mk (blk_below (g := gb440) (o := .cells #[.int .i64 a1_0, .int .i64 a1_1, .string a1_2] 27 (0, 0)) (by (with_reducible repeat (first | refine blk_drewN ?_ _ | refine blk_drew ?_ | refine blk_alloc ?_ _)); exact BK440.out) hb); have n1_ := Aside0.mk (blk_below (g := gb441) (o := .cells #[.int .i64 a2_0, .int .i64 a2_1, .string a2_2] 27 (0, 0)) (by (with_reducible repeat (first | refine blk_drewN ?_ _ | refine blk_drew ?_ | refine blk_alloc ?_ _)); exact BK441.out) hb); have n2_ := Aside0.mk (below_step (by repeat (first | (with_reducible first | exact HB.out | apply below_alloc | apply pw_below_drewN | apply below_drew1 | refine below_set ?_ GE440.out | refine below_set ?_ GE441.out) | exact HB.out)) hb); clear BK440; clear BK441; clear HB; have BK440 := n0_; have BK441 := n1_; have HB := n2_; clear n0_ n1_ n2_; (try clear hb); (try clear hb2); (try clear hk); (try clear hi)) | ((with_reducible refine gate_callee (f := 59) rfl ?_); refine goesL_ (some 70) rfl rfl Try.func59 (by kernel_rfl) rfl #[.bool true] rfl (by (try simp only [List.map_toArray, List.map_cons, List.map_nil]); first | done | rfl | (simp only [List.length_drop, List.length_take]; rfl)) ?_; (with_reducible refine (impl_truthIf.calls true t447 _ A39.out).mono ?_); rintro e w' ⟨rfl, ⟨nd, rfl⟩⟩; refine ⟨_, rfl, ?_⟩))
                      go_ret
                      exact ⟨by first | rfl | (simp [errW_none, errW_some] <;> rfl) | (simp [*, errW_none, errW_some] <;> rfl), by repeat (first | (with_reducible first | exact HB.out | apply below_alloc | apply pw_below_drewN | apply below_drew1 | refine below_set ?_ GE440.out | refine below_set ?_ GE441.out) | exact HB.out)⟩
                    · rw [if_neg c38] at H
                      have c38b0 : (a0 == 2) = false := beq_eq_false_iff_ne.mpr c38
                      have c38b1 : (a0 != 2) = true := bne_iff_ne.mpr c38
                      by_cases c44 : a0 = 3
                      · rw [if_pos c44] at H
                        have c44b0 : (a0 == 3) = true := beq_iff_eq.mpr c44
                        have c44b1 : (a0 != 3) = false := bne_eq_false_iff_eq.mpr c44
                        clear c44
                        by_cases c45 : t445 < 0
                        · rw [if_pos c45] at H
                          have c45b0 : decide (t445 < 0) = true := decide_eq_true c45
                          clear c45
                          replace H := Option.bind_eq_some_iff.mp H
                          obtain ⟨t448, A460, H⟩ := H
                          replace H : (some t448) = some r := H
                          have A46 := Aside0.mk A460
                          clear A460
                          obtain rfl := Option.some.inj H
                          have hnb47 := NB440_441.out
                          have hnc47 := NB441_440.out
                          have hcz48_0 : wc.cell? ⟨gb440, 0, none⟩ = some (.int .i64 a1_0) := (blk_cell BK440.out 0).trans rfl
                          have hcz48_1 : wc.cell? ⟨gb440, 1, none⟩ = some (.int .i64 a1_1) := (blk_cell BK440.out 1).trans rfl
                          have hcz48_2 : wc.cell? ⟨gb440, 2, none⟩ = some (.string a1_2) := (blk_cell BK440.out 2).trans rfl
                          have hfz48_0 := blk_frozen BK440.out 0
                          have hfz48_1 := blk_frozen BK440.out 1
                          have hfz48_2 := blk_frozen BK440.out 2
                          have hcz49_0 : wc.cell? ⟨gb441, 0, none⟩ = some (.int .i64 a2_0) := (blk_cell BK441.out 0).trans rfl
                          have hcz49_1 : wc.cell? ⟨gb441, 1, none⟩ = some (.int .i64 a2_1) := (blk_cell BK441.out 1).trans rfl
                          have hcz49_2 : wc.cell? ⟨gb441, 2, none⟩ = some (.string a2_2) := (blk_cell BK441.out 2).trans rfl
                          have hfz49_0 := blk_frozen BK441.out 0
                          have hfz49_1 := blk_frozen BK441.out 1
                          have hfz49_2 := blk_frozen BK441.out 2
                          go_wp2_with (first | ((with_reducible refine gate_callee (f := 51) rfl ?_); refine goesL_ (some 39) rfl rfl Try.func51 (by kernel_rfl) rfl #[.agg #[.int .i64 a1_0, .int .i64 a1_1, .string a1_2], .agg #[.int .i64 a2_0, .int .i64 a2_1, .string a2_2]] rfl (by (try simp only [List.map_toArray, List.map_cons, List.map_nil]); first | done | rfl | (simp only [List.length_drop, List.length_take]; rfl)) ?_; (with_reducible refine (impl_Value_order.calls kj20 a1_0 a1_1 a1_2 a2_0 a2_1 a2_2 t445 _ A30.out).mono ?_); rintro e w50 ⟨rfl, hb⟩; refine ⟨_, rfl, ?_⟩; have n0_ := Aside0.mk (blk_below (g := gb440) (o := .cells #[.int .i64 a1_0, .int .i64 a1_1, .string a1_2] 27 (0, 0)) (by (with_reducible repeat (first | refine blk_drewN ?_ _ | refine blk_drew ?_ | refine blk_alloc ?_ _)); exact BK440.out) hb); have n1_ := Aside0.mk (blk_below (g := gb441) (o := .cells #[.int .i64 a2_0, .int .i64 a2_1, .string a2_2] 27 (0, 0)) (by (with_reducible repeat (first | refine blk_drewN ?_ _ | refine blk_drew ?_ | refine blk_alloc ?_ _)); exact BK441.out) hb); have n2_ := Aside0.mk (below_step (by repeat (first | (with_reducible first | exact HB.out | apply below_alloc | apply pw_below_drewN | apply below_drew1 | refine below_set ?_ GE440.out | refine below_set ?_ GE441.out) | exact HB.out)) hb); clear BK440; clear BK441; clear HB; have BK440 := n0_; have BK441 := n1_; have HB := n2_; clear n0_ n1_ n2_; (try clear hb); (try clear hb2); (try clear hk); (try clear hi)) | ((with_reducible refine gate_callee (f := 59) rfl ?_); refine goesL_ (some 70) rfl rfl Try.func59 (by kernel_rfl) rfl #[.bool true] rfl (by (try simp only [List.map_toArray, List.map_cons, List.map_nil]); first | done | rfl | (simp only [List.length_drop, List.length_take]; rfl)) ?_; (with_reducible refine (impl_truthIf.calls true t448 _ A46.out).mono ?_); rintro e w' ⟨rfl, ⟨nd, rfl⟩⟩; refine ⟨_, rfl, ?_⟩))
                          go_ret
                          exact ⟨by first | rfl | (simp [errW_none, errW_some] <;> rfl) | (simp [*, errW_none, errW_some] <;> rfl), by repeat (first | (with_reducible first | exact HB.out | apply below_alloc | apply pw_below_drewN | apply below_drew1 | refine below_set ?_ GE440.out | refine below_set ?_ GE441.out) | exact HB.out)⟩
                        · rw [if_neg c45] at H
                          have c45b0 : decide (t445 < 0) = false := decide_eq_false c45
                          clear c45
                          by_cases c51 : a0 = 4
                          · rw [if_pos c51] at H
                            have c51b0 : (a0 == 4) = true := beq_iff_eq.mpr c51
                            have c51b1 : (a0 != 4) = false := bne_eq_false_iff_eq.mpr c51
                            clear c51
                            replace H := Option.bind_eq_some_iff.mp H
                            obtain ⟨t449, A520, H⟩ := H
                            replace H : (some t449) = some r := H
                            have A52 := Aside0.mk A520
                            clear A520
                            obtain rfl := Option.some.inj H
                            have hnb53 := NB440_441.out
                            have hnc53 := NB441_440.out
                            have hcz54_0 : wc.cell? ⟨gb440, 0, none⟩ = some (.int .i64 a1_0) := (blk_cell BK440.out 0).trans rfl
                            have hcz54_1 : wc.cell? ⟨gb440, 1, none⟩ = some (.int .i64 a1_1) := (blk_cell BK440.out 1).trans rfl
                            have hcz54_2 : wc.cell? ⟨gb440, 2, none⟩ = some (.string a1_2) := (blk_cell BK440.out 2).trans rfl
                            have hfz54_0 := blk_frozen BK440.out 0
                            have hfz54_1 := blk_frozen BK440.out 1
                            have hfz54_2 := blk_frozen BK440.out 2
                            have hcz55_0 : wc.cell? ⟨gb441, 0, none⟩ = some (.int .i64 a2_0) := (blk_cell BK441.out 0).trans rfl
                            have hcz55_1 : wc.cell? ⟨gb441, 1, none⟩ = some (.int .i64 a2_1) := (blk_cell BK441.out 1).trans rfl
                            have hcz55_2 : wc.cell? ⟨gb441, 2, none⟩ = some (.string a2_2) := (blk_cell BK441.out 2).trans rfl
                            have hfz55_0 := blk_frozen BK441.out 0
                            have hfz55_1 := blk_frozen BK441.out 1
                            have hfz55_2 := blk_frozen BK441.out 2
                            go_wp2_with (first | ((with_reducible refine gate_callee (f := 51) rfl ?_); refine goesL_ (some 39) rfl rfl Try.func51 (by kernel_rfl) rfl #[.agg #[.int .i64 a1_0, .int .i64 a1_1, .string a1_2], .agg #[.int .i64 a2_0, .int .i64 a2_1, .string a2_2]] rfl (by (try simp only [List.map_toArray, List.map_cons, List.map_nil]); first | done | rfl | (simp only [List.length_drop, List.length_take]; rfl)) ?_; (with_reducible refine (impl_Value_order.calls kj20 a1_0 a1_1 a1_2 a2_0 a2_1 a2_2 t445 _ A30.out).mono ?_); rintro e w56 ⟨rfl, hb⟩; refine ⟨_, rfl, ?_⟩; have n0_ := Aside0.mk (blk_below (g := gb440) (o := .cells #[.int .i64 a1_0, .int .i64 a1_1, .string a1_2] 27 (0, 0)) (by (with_reducible repeat (first | refine blk_drewN ?_ _ | refine blk_drew ?_ | refine blk_alloc ?_ _)); exact BK440.out) hb); have n1_ := Aside0.mk (blk_below (g := gb441) (o := .cells #[.int .i64 a2_0, .int .i64 a2_1, .string a2_2] 27 (0, 0)) (by (with_reducible repeat (first | refine blk_drewN ?_ _ | refine blk_drew ?_ | refine blk_alloc ?_ _)); exact BK441.out) hb); have n2_ := Aside0.mk (below_step (by repeat (first | (with_reducible first | exact HB.out | apply below_alloc | apply pw_below_drewN | apply below_drew1 | refine below_set ?_ GE440.out | refine below_set ?_ GE441.out) | exact HB.out)) hb); clear BK440; clear BK441; clear HB; have BK440 := n0_; have BK441 := n1_; have HB := n2_; clear n0_ n1_ n2_; (try clear hb); (try clear hb2); (try clear hk); (try clear hi)) | ((with_reducible refine gate_callee (f := 59) rfl ?_); refine goesL_ (some 70) rfl rfl Try.func59 (by kernel_rfl) rfl #[.bool (decide (t445 ≤ 0))] rfl (by (try simp only [List.map_toArray, List.map_cons, List.map_nil]); first | done | rfl | (simp only [List.length_drop, List.length_take]; rfl)) ?_; (with_reducible refine (impl_truthIf.calls (decide (t445 ≤ 0)) t449 _ A52.out).mono ?_); rintro e w' ⟨rfl, ⟨nd, rfl⟩⟩; refine ⟨_, rfl, ?_⟩))
                            go_ret
                            exact ⟨by first | rfl | (simp [errW_none, errW_some] <;> rfl) | (simp [*, errW_none, errW_some] <;> rfl), by repeat (first | (with_reducible first | exact HB.out | apply below_alloc | apply pw_below_drewN | apply below_drew1 | refine below_set ?_ GE440.out | refine below_set ?_ GE441.out) | exact HB.out)⟩
                          · rw [if_neg c51] at H
                            have c51b0 : (a0 == 4) = false := beq_eq_false_iff_ne.mpr c51
                            have c51b1 : (a0 != 4) = true := bne_iff_ne.mpr c51
                            replace H := Option.bind_eq_some_iff.mp H
                            obtain ⟨t450, A570, H⟩ := H
                            replace H : (some t450) = some r := H
                            have A57 := Aside0.mk A570
                            clear A570
                            obtain rfl := Option.some.inj H
                            have hnb58 := NB440_441.out
                            have hnc58 := NB441_440.out
                            have hcz59_0 : wc.cell? ⟨gb440, 0, none⟩ = some (.int .i64 a1_0) := (blk_cell BK440.out 0).trans rfl
                            have hcz59_1 : wc.cell? ⟨gb440, 1, none⟩ = some (.int .i64 a1_1) := (blk_cell BK440.out 1).trans rfl
                            have hcz59_2 : wc.cell? ⟨gb440, 2, none⟩ = some (.string a1_2) := (blk_cell BK440.out 2).trans rfl
                            have hfz59_0 := blk_frozen BK440.out 0
                            have hfz59_1 := blk_frozen BK440.out 1
                            have hfz59_2 := blk_frozen BK440.out 2
                            have hcz60_0 : wc.cell? ⟨gb441, 0, none⟩ = some (.int .i64 a2_0) := (blk_cell BK441.out 0).trans rfl
                            have hcz60_1 : wc.cell? ⟨gb441, 1, none⟩ = some (.int .i64 a2_1) := (blk_cell BK441.out 1).trans rfl
                            have hcz60_2 : wc.cell? ⟨gb441, 2, none⟩ = some (.string a2_2) := (blk_cell BK441.out 2).trans rfl
                            have hfz60_0 := blk_frozen BK441.out 0
                            have hfz60_1 := blk_frozen BK441.out 1
                            have hfz60_2 := blk_frozen BK441.out 2
                            go_wp2_with (first | ((with_reducible refine gate_callee (f := 51) rfl ?_); refine goesL_ (some 39) rfl rfl Try.func51 (by kernel_rfl) rfl #[.agg #[.int .i64 a1_0, .int .i64 a1_1, .string a1_2], .agg #[.int .i64 a2_0, .int .i64 a2_1, .string a2_2]] rfl (by (try simp only [List.map_toArray, List.map_cons, List.map_nil]); first | done | rfl | (simp only [List.length_drop, List.length_take]; rfl)) ?_; (with_reducible refine (impl_Value_order.calls kj20 a1_0 a1_1 a1_2 a2_0 a2_1 a2_2 t445 _ A30.out).mono ?_); rintro e w61 ⟨rfl, hb⟩; refine ⟨_, rfl, ?_⟩; have n0_ := Aside0.mk (blk_below (g := gb440) (o := .cells #[.int .i64 a1_0, .int .i64 a1_1, .string a1_2] 27 (0, 0)) (by (with_reducible repeat (first | refine blk_drewN ?_ _ | refine blk_drew ?_ | refine blk_alloc ?_ _)); exact BK440.out) hb); have n1_ := Aside0.mk (blk_below (g := gb441) (o := .cells #[.int .i64 a2_0, .int .i64 a2_1, .string a2_2] 27 (0, 0)) (by (with_reducible repeat (first | refine blk_drewN ?_ _ | refine blk_drew ?_ | refine blk_alloc ?_ _)); exact BK441.out) hb); have n2_ := Aside0.mk (below_step (by repeat (first | (with_reducible first | exact HB.out | apply below_alloc | apply pw_below_drewN | apply below_drew1 | refine below_set ?_ GE440.out | refine below_set ?_ GE441.out) | exact HB.out)) hb); clear BK440; clear BK441; clear HB; have BK440 := n0_; have BK441 := n1_; have HB := n2_; clear n0_ n1_ n2_; (try clear hb); (try clear hb2); (try clear hk); (try clear hi)) | ((with_reducible refine gate_callee (f := 59) rfl ?_); refine goesL_ (some 70) rfl rfl Try.func59 (by kernel_rfl) rfl #[.bool false] rfl (by (try simp only [List.map_toArray, List.map_cons, List.map_nil]); first | done | rfl | (simp only [List.length_drop, List.length_take]; rfl)) ?_; (with_reducible refine (impl_truthIf.calls false t450 _ A57.out).mono ?_); rintro e w' ⟨rfl, ⟨nd, rfl⟩⟩; refine ⟨_, rfl, ?_⟩))
                            go_ret
                            exact ⟨by first | rfl | (simp [errW_none, errW_some] <;> rfl) | (simp [*, errW_none, errW_some] <;> rfl), by repeat (first | (with_reducible first | exact HB.out | apply below_alloc | apply pw_below_drewN | apply below_drew1 | refine below_set ?_ GE440.out | refine below_set ?_ GE441.out) | exact HB.out)⟩
                      · rw [if_neg c44] at H
                        have c44b0 : (a0 == 3) = false := beq_eq_false_iff_ne.mpr c44
                        have c44b1 : (a0 != 3) = true := bne_iff_ne.mpr c44
                        by_cases c62 : a0 = 4
                        · rw [if_pos c62] at H
                          have c62b0 : (a0 == 4) = true := beq_iff_eq.mpr c62
                          have c62b1 : (a0 != 4) = false := bne_eq_false_iff_eq.mpr c62
                          clear c62
                          replace H := Option.bind_eq_some_iff.mp H
                          obtain ⟨t451, A630, H⟩ := H
                          replace H : (some t451) = some r := H
                          have A63 := Aside0.mk A630
                          clear A630
                          obtain rfl := Option.some.inj H
                          have hnb64 := NB440_441.out
                          have hnc64 := NB441_440.out
                          have hcz65_0 : wc.cell? ⟨gb440, 0, none⟩ = some (.int .i64 a1_0) := (blk_cell BK440.out 0).trans rfl
                          have hcz65_1 : wc.cell? ⟨gb440, 1, none⟩ = some (.int .i64 a1_1) := (blk_cell BK440.out 1).trans rfl
                          have hcz65_2 : wc.cell? ⟨gb440, 2, none⟩ = some (.string a1_2) := (blk_cell BK440.out 2).trans rfl
                          have hfz65_0 := blk_frozen BK440.out 0
                          have hfz65_1 := blk_frozen BK440.out 1
                          have hfz65_2 := blk_frozen BK440.out 2
                          have hcz66_0 : wc.cell? ⟨gb441, 0, none⟩ = some (.int .i64 a2_0) := (blk_cell BK441.out 0).trans rfl
                          have hcz66_1 : wc.cell? ⟨gb441, 1, none⟩ = some (.int .i64 a2_1) := (blk_cell BK441.out 1).trans rfl
                          have hcz66_2 : wc.cell? ⟨gb441, 2, none⟩ = some (.string a2_2) := (blk_cell BK441.out 2).trans rfl
                          have hfz66_0 := blk_frozen BK441.out 0
                          have hfz66_1 := blk_frozen BK441.out 1
                          have hfz66_2 := blk_frozen BK441.out 2
                          go_wp2_with (first | ((with_reducible refine gate_callee (f := 51) rfl ?_); refine goesL_ (some 39) rfl rfl Try.func51 (by kernel_rfl) rfl #[.agg #[.int .i64 a1_0, .int .i64 a1_1, .string a1_2], .agg #[.int .i64 a2_0, .int .i64 a2_1, .string a2_2]] rfl (by (try simp only [List.map_toArray, List.map_cons, List.map_nil]); first | done | rfl | (simp only [List.length_drop, List.length_take]; rfl)) ?_; (with_reducible refine (impl_Value_order.calls kj20 a1_0 a1_1 a1_2 a2_0 a2_1 a2_2 t445 _ A30.out).mono ?_); rintro e w67 ⟨rfl, hb⟩; refine ⟨_, rfl, ?_⟩; have n0_ := Aside0.mk (blk_below (g := gb440) (o := .cells #[.int .i64 a1_0, .int .i64 a1_1, .string a1_2] 27 (0, 0)) (by (with_reducible repeat (first | refine blk_drewN ?_ _ | refine blk_drew ?_ | refine blk_alloc ?_ _)); exact BK440.out) hb); have n1_ := Aside0.mk (blk_below (g := gb441) (o := .cells #[.int .i64 a2_0, .int .i64 a2_1, .string a2_2] 27 (0, 0)) (by (with_reducible repeat (first | refine blk_drewN ?_ _ | refine blk_drew ?_ | refine blk_alloc ?_ _)); exact BK441.out) hb); have n2_ := Aside0.mk (below_step (by repeat (first | (with_reducible first | exact HB.out | apply below_alloc | apply pw_below_drewN | apply below_drew1 | refine below_set ?_ GE440.out | refine below_set ?_ GE441.out) | exact HB.out)) hb); clear BK440; clear BK441; clear HB; have BK440 := n0_; have BK441 := n1_; have HB := n2_; clear n0_ n1_ n2_; (try clear hb); (try clear hb2); (try clear hk); (try clear hi)) | ((with_reducible refine gate_callee (f := 59) rfl ?_); refine goesL_ (some 70) rfl rfl Try.func59 (by kernel_rfl) rfl #[.bool (decide (t445 ≤ 0))] rfl (by (try simp only [List.map_toArray, List.map_cons, List.map_nil]); first | done | rfl | (simp only [List.length_drop, List.length_take]; rfl)) ?_; (with_reducible refine (impl_truthIf.calls (decide (t445 ≤ 0)) t451 _ A63.out).mono ?_); rintro e w' ⟨rfl, ⟨nd, rfl⟩⟩; refine ⟨_, rfl, ?_⟩))
                          go_ret
                          exact ⟨by first | rfl | (simp [errW_none, errW_some] <;> rfl) | (simp [*, errW_none, errW_some] <;> rfl), by repeat (first | (with_reducible first | exact HB.out | apply below_alloc | apply pw_below_drewN | apply below_drew1 | refine below_set ?_ GE440.out | refine below_set ?_ GE441.out) | exact HB.out)⟩
                        · rw [if_neg c62] at H
                          have c62b0 : (a0 == 4) = false := beq_eq_false_iff_ne.mpr c62
                          have c62b1 : (a0 != 4) = true := bne_iff_ne.mpr c62
                          replace H := Option.bind_eq_some_iff.mp H
                          obtain ⟨t452, A680, H⟩ := H
                          replace H : (some t452) = some r := H
                          have A68 := Aside0.mk A680
                          clear A680
                          obtain rfl := Option.some.inj H
                          have hnb69 := NB440_441.out
                          have hnc69 := NB441_440.out
                          have hcz70_0 : wc.cell? ⟨gb440, 0, none⟩ = some (.int .i64 a1_0) := (blk_cell BK440.out 0).trans rfl
                          have hcz70_1 : wc.cell? ⟨gb440, 1, none⟩ = some (.int .i64 a1_1) := (blk_cell BK440.out 1).trans rfl
                          have hcz70_2 : wc.cell? ⟨gb440, 2, none⟩ = some (.string a1_2) := (blk_cell BK440.out 2).trans rfl
                          have hfz70_0 := blk_frozen BK440.out 0
                          have hfz70_1 := blk_frozen BK440.out 1
                          have hfz70_2 := blk_frozen BK440.out 2
                          have hcz71_0 : wc.cell? ⟨gb441, 0, none⟩ = some (.int .i64 a2_0) := (blk_cell BK441.out 0).trans rfl
                          have hcz71_1 : wc.cell? ⟨gb441, 1, none⟩ = some (.int .i64 a2_1) := (blk_cell BK441.out 1).trans rfl
                          have hcz71_2 : wc.cell? ⟨gb441, 2, none⟩ = some (.string a2_2) := (blk_cell BK441.out 2).trans rfl
                          have hfz71_0 := blk_frozen BK441.out 0
                          have hfz71_1 := blk_frozen BK441.out 1
                          have hfz71_2 := blk_frozen BK441.out 2
                          go_wp2_with (first | ((with_reducible refine gate_callee (f := 51) rfl ?_); refine goesL_ (some 39) rfl rfl Try.func51 (by kernel_rfl) rfl #[.agg #[.int .i64 a1_0, .int .i64 a1_1, .string a1_2], .agg #[.int .i64 a2_0, .int .i64 a2_1, .string a2_2]] rfl (by (try simp only [List.map_toArray, List.map_cons, List.map_nil]); first | done | rfl | (simp only [List.length_drop, List.length_take]; rfl)) ?_; (with_reducible refine (impl_Value_order.calls kj20 a1_0 a1_1 a1_2 a2_0 a2_1 a2_2 t445 _ A30.out).mono ?_); rintro e w72 ⟨rfl, hb⟩; refine ⟨_, rfl, ?_⟩; have n0_ := Aside0.mk (blk_below (g := gb440) (o := .cells #[.int .i64 a1_0, .int .i64 a1_1, .string a1_2] 27 (0, 0)) (by (with_reducible repeat (first | refine blk_drewN ?_ _ | refine blk_drew ?_ | refine blk_alloc ?_ _)); exact BK440.out) hb); have n1_ := Aside0.mk (blk_below (g := gb441) (o := .cells #[.int .i64 a2_0, .int .i64 a2_1, .string a2_2] 27 (0, 0)) (by (with_reducible repeat (first | refine blk_drewN ?_ _ | refine blk_drew ?_ | refine blk_alloc ?_ _)); exact BK441.out) hb); have n2_ := Aside0.mk (below_step (by repeat (first | (with_reducible first | exact HB.out | apply below_alloc | apply pw_below_drewN | apply below_drew1 | refine below_set ?_ GE440.out | refine below_set ?_ GE441.out) | exact HB.out)) hb); clear BK440; clear BK441; clear HB; have BK440 := n0_; have BK441 := n1_; have HB := n2_; clear n0_ n1_ n2_; (try clear hb); (try clear hb2); (try clear hk); (try clear hi)) | ((with_reducible refine gate_callee (f := 59) rfl ?_); refine goesL_ (some 70) rfl rfl Try.func59 (by kernel_rfl) rfl #[.bool false] rfl (by (try simp only [List.map_toArray, List.map_cons, List.map_nil]); first | done | rfl | (simp only [List.length_drop, List.length_take]; rfl)) ?_; (with_reducible refine (impl_truthIf.calls false t452 _ A68.out).mono ?_); rintro e w' ⟨rfl, ⟨nd, rfl⟩⟩; refine ⟨_, rfl, ?_⟩))
                          go_ret
                          exact ⟨by first | rfl | (simp [errW_none, errW_some] <;> rfl) | (simp [*, errW_none, errW_some] <;> rfl), by repeat (first | (with_reducible first | exact HB.out | apply below_alloc | apply pw_below_drewN | apply below_drew1 | refine below_set ?_ GE440.out | refine below_set ?_ GE441.out) | exact HB.out)⟩
                · rw [if_neg c31] at H
                  have c31b0 : (a0 == 1) = false := beq_eq_false_iff_ne.mpr c31
                  have c31b1 : (a0 != 1) = true := bne_iff_ne.mpr c31
                  by_cases c73 : a0 = 2
                  · rw [if_pos c73] at H
                    have c73b0 : (a0 == 2) = true := beq_iff_eq.mpr c73
                    have c73b1 : (a0 != 2) = false := bne_eq_false_iff_eq.mpr c73
                    clear c73
                    by_cases c74 : t445 = 0
                    · rw [if_pos c74] at H
                      have c74b0 : (t445 == 0) = true := beq_iff_eq.mpr c74
                      have c74b1 : (t445 != 0) = false := bne_eq_false_iff_eq.mpr c74
                      clear c74
                      by_cases c75 : a0 = 3
                      · rw [if_pos c75] at H
                        have c75b0 : (a0 == 3) = true := beq_iff_eq.mpr c75
                        have c75b1 : (a0 != 3) = false := bne_eq_false_iff_eq.mpr c75
                        clear c75
                        by_cases c76 : t445 < 0
                        · rw [if_pos c76] at H
                          have c76b0 : decide (t445 < 0) = true := decide_eq_true c76
                          clear c76
                          replace H := Option.bind_eq_some_iff.mp H
                          obtain ⟨t453, A770, H⟩ := H
                          replace H : (some t453) = some r := H
                          have A77 := Aside0.mk A770
                          clear A770
                          obtain rfl := Option.some.inj H
                          have hnb78 := NB440_441.out
                          have hnc78 := NB441_440.out
                          have hcz79_0 : wc.cell? ⟨gb440, 0, none⟩ = some (.int .i64 a1_0) := (blk_cell BK440.out 0).trans rfl
                          have hcz79_1 : wc.cell? ⟨gb440, 1, none⟩ = some (.int .i64 a1_1) := (blk_cell BK440.out 1).trans rfl
                          have hcz79_2 : wc.cell? ⟨gb440, 2, none⟩ = some (.string a1_2) := (blk_cell BK440.out 2).trans rfl
                          have hfz79_0 := blk_frozen BK440.out 0
                          have hfz79_1 := blk_frozen BK440.out 1
                          have hfz79_2 := blk_frozen BK440.out 2
                          have hcz80_0 : wc.cell? ⟨gb441, 0, none⟩ = some (.int .i64 a2_0) := (blk_cell BK441.out 0).trans rfl
                          have hcz80_1 : wc.cell? ⟨gb441, 1, none⟩ = some (.int .i64 a2_1) := (blk_cell BK441.out 1).trans rfl
                          have hcz80_2 : wc.cell? ⟨gb441, 2, none⟩ = some (.string a2_2) := (blk_cell BK441.out 2).trans rfl
                          have hfz80_0 := blk_frozen BK441.out 0
                          have hfz80_1 := blk_frozen BK441.out 1
                          have hfz80_2 := blk_frozen BK441.out 2
                          go_wp2_with (first | ((with_reducible refine gate_callee (f := 51) rfl ?_); refine goesL_ (some 39) rfl rfl Try.func51 (by kernel_rfl) rfl #[.agg #[.int .i64 a1_0, .int .i64 a1_1, .string a1_2], .agg #[.int .i64 a2_0, .int .i64 a2_1, .string a2_2]] rfl (by (try simp only [List.map_toArray, List.map_cons, List.map_nil]); first | done | rfl | (simp only [List.length_drop, List.length_take]; rfl)) ?_; (with_reducible refine (impl_Value_order.calls kj20 a1_0 a1_1 a1_2 a2_0 a2_1 a2_2 t445 _ A30.out).mono ?_); rintro e w81 ⟨rfl, hb⟩; refine ⟨_, rfl, ?_⟩; have n0_ := Aside0.mk (blk_below (g := gb440) (o := .cells #[.int .i64 a1_0, .int .i64 a1_1, .string a1_2] 27 (0, 0)) (by (with_reducible repeat (first | refine blk_drewN ?_ _ | refine blk_drew ?_ | refine blk_alloc ?_ _)); exact BK440.out) hb); have n1_ := Aside0.mk (blk_below (g := gb441) (o := .cells #[.int .i64 a2_0, .int .i64 a2_1, .string a2_2] 27 (0, 0)) (by (with_reducible repeat (first | refine blk_drewN ?_ _ | refine blk_drew ?_ | refine blk_alloc ?_ _)); exact BK441.out) hb); have n2_ := Aside0.mk (below_step (by repeat (first | (with_reducible first | exact HB.out | apply below_alloc | apply pw_below_drewN | apply below_drew1 | refine below_set ?_ GE440.out | refine below_set ?_ GE441.out) | exact HB.out)) hb); clear BK440; clear BK441; clear HB; have BK440 := n0_; have BK441 := n1_; have HB := n2_; clear n0_ n1_ n2_; (try clear hb); (try clear hb2); (try clear hk); (try clear hi)) | ((with_reducible refine gate_callee (f := 59) rfl ?_); refine goesL_ (some 70) rfl rfl Try.func59 (by kernel_rfl) rfl #[.bool true] rfl (by (try simp only [List.map_toArray, List.map_cons, List.map_nil]); first | done | rfl | (simp only [List.length_drop, List.length_take]; rfl)) ?_; (with_reducible refine (impl_truthIf.calls true t453 _ A77.out).mono ?_); rintro e w' ⟨rfl, ⟨nd, rfl⟩⟩; refine ⟨_, rfl, ?_⟩))
                          go_ret
                          exact ⟨by first | rfl | (simp [errW_none, errW_some] <;> rfl) | (simp [*, errW_none, errW_some] <;> rfl), by repeat (first | (with_reducible first | exact HB.out | apply below_alloc | apply pw_below_drewN | apply below_drew1 | refine below_set ?_ GE440.out | refine below_set ?_ GE441.out) | exact HB.out)⟩
                        · rw [if_neg c76] at H
                          have c76b0 : decide (t445 < 0) = false := decide_eq_false c76
                          clear c76
                          by_cases c82 : a0 = 4
                          · rw [if_pos c82] at H
                            have c82b0 : (a0 == 4) = true := beq_iff_eq.mpr c82
                            have c82b1 : (a0 != 4) = false := bne_eq_false_iff_eq.mpr c82
                            clear c82
                            replace H := Option.bind_eq_some_iff.mp H
                            obtain ⟨t454, A830, H⟩ := H
                            replace H : (some t454) = some r := H
                            have A83 := Aside0.mk A830
                            clear A830
                            obtain rfl := Option.some.inj H
                            have hnb84 := NB440_441.out
                            have hnc84 := NB441_440.out
                            have hcz85_0 : wc.cell? ⟨gb440, 0, none⟩ = some (.int .i64 a1_0) := (blk_cell BK440.out 0).trans rfl
                            have hcz85_1 : wc.cell? ⟨gb440, 1, none⟩ = some (.int .i64 a1_1) := (blk_cell BK440.out 1).trans rfl
                            have hcz85_2 : wc.cell? ⟨gb440, 2, none⟩ = some (.string a1_2) := (blk_cell BK440.out 2).trans rfl
                            have hfz85_0 := blk_frozen BK440.out 0
                            have hfz85_1 := blk_frozen BK440.out 1
                            have hfz85_2 := blk_frozen BK440.out 2
                            have hcz86_0 : wc.cell? ⟨gb441, 0, none⟩ = some (.int .i64 a2_0) := (blk_cell BK441.out 0).trans rfl
                            have hcz86_1 : wc.cell? ⟨gb441, 1, none⟩ = some (.int .i64 a2_1) := (blk_cell BK441.out 1).trans rfl
                            have hcz86_2 : wc.cell? ⟨gb441, 2, none⟩ = some (.string a2_2) := (blk_cell BK441.out 2).trans rfl
                            have hfz86_0 := blk_frozen BK441.out 0
                            have hfz86_1 := blk_frozen BK441.out 1
                            have hfz86_2 := blk_frozen BK441.out 2
                            go_wp2_with (first | ((with_reducible refine gate_callee (f := 51) rfl ?_); refine goesL_ (some 39) rfl rfl Try.func51 (by kernel_rfl) rfl #[.agg #[.int .i64 a1_0, .int .i64 a1_1, .string a1_2], .agg #[.int .i64 a2_0, .int .i64 a2_1, .string a2_2]] rfl (by (try simp only [List.map_toArray, List.map_cons, List.map_nil]); first | done | rfl | (simp only [List.length_drop, List.length_take]; rfl)) ?_; (with_reducible refine (impl_Value_order.calls kj20 a1_0 a1_1 a1_2 a2_0 a2_1 a2_2 t445 _ A30.out).mono ?_); rintro e w87 ⟨rfl, hb⟩; refine ⟨_, rfl, ?_⟩; have n0_ := Aside0.mk (blk_below (g := gb440) (o := .cells #[.int .i64 a1_0, .int .i64 a1_1, .string a1_2] 27 (0, 0)) (by (with_reducible repeat (first | refine blk_drewN ?_ _ | refine blk_drew ?_ | refine blk_alloc ?_ _)); exact BK440.out) hb); have n1_ := Aside0.mk (blk_below (g := gb441) (o := .cells #[.int .i64 a2_0, .int .i64 a2_1, .string a2_2] 27 (0, 0)) (by (with_reducible repeat (first | refine blk_drewN ?_ _ | refine blk_drew ?_ | refine blk_alloc ?_ _)); exact BK441.out) hb); have n2_ := Aside0.mk (below_step (by repeat (first | (with_reducible first | exact HB.out | apply below_alloc | apply pw_below_drewN | apply below_drew1 | refine below_set ?_ GE440.out | refine below_set ?_ GE441.out) | exact HB.out)) hb); clear BK440; clear BK441; clear HB; have BK440 := n0_; have BK441 := n1_; have HB := n2_; clear n0_ n1_ n2_; (try clear hb); (try clear hb2); (try clear hk); (try clear hi)) | ((with_reducible refine gate_callee (f := 59) rfl ?_); refine goesL_ (some 70) rfl rfl Try.func59 (by kernel_rfl) rfl #[.bool (decide (t445 ≤ 0))] rfl (by (try simp only [List.map_toArray, List.map_cons, List.map_nil]); first | done | rfl | (simp only [List.length_drop, List.length_take]; rfl)) ?_; (with_reducible refine (impl_truthIf.calls (decide (t445 ≤ 0)) t454 _ A83.out).mono ?_); rintro e w' ⟨rfl, ⟨nd, rfl⟩⟩; refine ⟨_, rfl, ?_⟩))
                            go_ret
                            exact ⟨by first | rfl | (simp [errW_none, errW_some] <;> rfl) | (simp [*, errW_none, errW_some] <;> rfl), by repeat (first | (with_reducible first | exact HB.out | apply below_alloc | apply pw_below_drewN | apply below_drew1 | refine below_set ?_ GE440.out | refine below_set ?_ GE441.out) | exact HB.out)⟩
                          · rw [if_neg c82] at H
                            have c82b0 : (a0 == 4) = false := beq_eq_false_iff_ne.mpr c82
                            have c82b1 : (a0 != 4) = true := bne_iff_ne.mpr c82
                            replace H := Option.bind_eq_some_iff.mp H
                            obtain ⟨t455, A880, H⟩ := H
                            replace H : (some t455) = some r := H
                            have A88 := Aside0.mk A880
                            clear A880
                            obtain rfl := Option.some.inj H
                            have hnb89 := NB440_441.out
                            have hnc89 := NB441_440.out
                            have hcz90_0 : wc.cell? ⟨gb440, 0, none⟩ = some (.int .i64 a1_0) := (blk_cell BK440.out 0).trans rfl
                            have hcz90_1 : wc.cell? ⟨gb440, 1, none⟩ = some (.int .i64 a1_1) := (blk_cell BK440.out 1).trans rfl
                            have hcz90_2 : wc.cell? ⟨gb440, 2, none⟩ = some (.string a1_2) := (blk_cell BK440.out 2).trans rfl
                            have hfz90_0 := blk_frozen BK440.out 0
                            have hfz90_1 := blk_frozen BK440.out 1
                            have hfz90_2 := blk_frozen BK440.out 2
                            have hcz91_0 : wc.cell? ⟨gb441, 0, none⟩ = some (.int .i64 a2_0) := (blk_cell BK441.out 0).trans rfl
                            have hcz91_1 : wc.cell? ⟨gb441, 1, none⟩ = some (.int .i64 a2_1) := (blk_cell BK441.out 1).trans rfl
                            have hcz91_2 : wc.cell? ⟨gb441, 2, none⟩ = some (.string a2_2) := (blk_cell BK441.out 2).trans rfl
                            have hfz91_0 := blk_frozen BK441.out 0
                            have hfz91_1 := blk_frozen BK441.out 1
                            have hfz91_2 := blk_frozen BK441.out 2
                            go_wp2_with (first | ((with_reducible refine gate_callee (f := 51) rfl ?_); refine goesL_ (some 39) rfl rfl Try.func51 (by kernel_rfl) rfl #[.agg #[.int .i64 a1_0, .int .i64 a1_1, .string a1_2], .agg #[.int .i64 a2_0, .int .i64 a2_1, .string a2_2]] rfl (by (try simp only [List.map_toArray, List.map_cons, List.map_nil]); first | done | rfl | (simp only [List.length_drop, List.length_take]; rfl)) ?_; (with_reducible refine (impl_Value_order.calls kj20 a1_0 a1_1 a1_2 a2_0 a2_1 a2_2 t445 _ A30.out).mono ?_); rintro e w92 ⟨rfl, hb⟩; refine ⟨_, rfl, ?_⟩; have n0_ := Aside0.mk (blk_below (g := gb440) (o := .cells #[.int .i64 a1_0, .int .i64 a1_1, .string a1_2] 27 (0, 0)) (by (with_reducible repeat (first | refine blk_drewN ?_ _ | refine blk_drew ?_ | refine blk_alloc ?_ _)); exact BK440.out) hb); have n1_ := Aside0.mk (blk_below (g := gb441) (o := .cells #[.int .i64 a2_0, .int .i64 a2_1, .string a2_2] 27 (0, 0)) (by (with_reducible repeat (first | refine blk_drewN ?_ _ | refine blk_drew ?_ | refine blk_alloc ?_ _)); exact BK441.out) hb); have n2_ := Aside0.mk (below_step (by repeat (first | (with_reducible first | exact HB.out | apply below_alloc | apply pw_below_drewN | apply below_drew1 | refine below_set ?_ GE440.out | refine below_set ?_ GE441.out) | exact HB.out)) hb); clear BK440; clear BK441; clear HB; have BK440 := n0_; have BK441 := n1_; have HB := n2_; clear n0_ n1_ n2_; (try clear hb); (try clear hb2); (try clear hk); (try clear hi)) | ((with_reducible refine gate_callee (f := 59) rfl ?_); refine goesL_ (some 70) rfl rfl Try.func59 (by kernel_rfl) rfl #[.bool false] rfl (by (try simp only [List.map_toArray, List.map_cons, List.map_nil]); first | done | rfl | (simp only [List.length_drop, List.length_take]; rfl)) ?_; (with_reducible refine (impl_truthIf.calls false t455 _ A88.out).mono ?_); rintro e w' ⟨rfl, ⟨nd, rfl⟩⟩; refine ⟨_, rfl, ?_⟩))
                            go_ret
                            exact ⟨by first | rfl | (simp [errW_none, errW_some] <;> rfl) | (simp [*, errW_none, errW_some] <;> rfl), by repeat (first | (with_reducible first | exact HB.out | apply below_alloc | apply pw_below_drewN | apply below_drew1 | refine below_set ?_ GE440.out | refine below_set ?_ GE441.out) | exact HB.out)⟩
                      · rw [if_neg c75] at H
                        have c75b0 : (a0 == 3) = false := beq_eq_false_iff_ne.mpr c75
                        have c75b1 : (a0 != 3) = true := bne_iff_ne.mpr c75
                        by_cases c93 : a0 = 4
                        · rw [if_pos c93] at H
                          have c93b0 : (a0 == 4) = true := beq_iff_eq.mpr c93
                          have c93b1 : (a0 != 4) = false := bne_eq_false_iff_eq.mpr c93
                          clear c93
                          replace H := Option.bind_eq_some_iff.mp H
                          obtain ⟨t456, A940, H⟩ := H
                          replace H : (some t456) = some r := H
                          have A94 := Aside0.mk A940
                          clear A940
                          obtain rfl := Option.some.inj H
                          have hnb95 := NB440_441.out
                          have hnc95 := NB441_440.out
                          have hcz96_0 : wc.cell? ⟨gb440, 0, none⟩ = some (.int .i64 a1_0) := (blk_cell BK440.out 0).trans rfl
                          have hcz96_1 : wc.cell? ⟨gb440, 1, none⟩ = some (.int .i64 a1_1) := (blk_cell BK440.out 1).trans rfl
                          have hcz96_2 : wc.cell? ⟨gb440, 2, none⟩ = some (.string a1_2) := (blk_cell BK440.out 2).trans rfl
                          have hfz96_0 := blk_frozen BK440.out 0
                          have hfz96_1 := blk_frozen BK440.out 1
                          have hfz96_2 := blk_frozen BK440.out 2
                          have hcz97_0 : wc.cell? ⟨gb441, 0, none⟩ = some (.int .i64 a2_0) := (blk_cell BK441.out 0).trans rfl
                          have hcz97_1 : wc.cell? ⟨gb441, 1, none⟩ = some (.int .i64 a2_1) := (blk_cell BK441.out 1).trans rfl
                          have hcz97_2 : wc.cell? ⟨gb441, 2, none⟩ = some (.string a2_2) := (blk_cell BK441.out 2).trans rfl
                          have hfz97_0 := blk_frozen BK441.out 0
                          have hfz97_1 := blk_frozen BK441.out 1
                          have hfz97_2 := blk_frozen BK441.out 2
                          go_wp2_with (first | ((with_reducible refine gate_callee (f := 51) rfl ?_); refine goesL_ (some 39) rfl rfl Try.func51 (by kernel_rfl) rfl #[.agg #[.int .i64 a1_0, .int .i64 a1_1, .string a1_2], .agg #[.int .i64 a2_0, .int .i64 a2_1, .string a2_2]] rfl (by (try simp only [List.map_toArray, List.map_cons, List.map_nil]); first | done | rfl | (simp only [List.length_drop, List.length_take]; rfl)) ?_; (with_reducible refine (impl_Value_order.calls kj20 a1_0 a1_1 a1_2 a2_0 a2_1 a2_2 t445 _ A30.out).mono ?_); rintro e w98 ⟨rfl, hb⟩; refine ⟨_, rfl, ?_⟩; have n0_ := Aside0.mk (blk_below (g := gb440) (o := .cells #[.int .i64 a1_0, .int .i64 a1_1, .string a1_2] 27 (0, 0)) (by (with_reducible repeat (first | refine blk_drewN ?_ _ | refine blk_drew ?_ | refine blk_alloc ?_ _)); exact BK440.out) hb); have n1_ := Aside0.mk (blk_below (g := gb441) (o := .cells #[.int .i64 a2_0, .int .i64 a2_1, .string a2_2] 27 (0, 0)) (by (with_reducible repeat (first | refine blk_drewN ?_ _ | refine blk_drew ?_ | refine blk_alloc ?_ _)); exact BK441.out) hb); have n2_ := Aside0.mk (below_step (by repeat (first | (with_reducible first | exact HB.out | apply below_alloc | apply pw_below_drewN | apply below_drew1 | refine below_set ?_ GE440.out | refine below_set ?_ GE441.out) | exact HB.out)) hb); clear BK440; clear BK441; clear HB; have BK440 := n0_; have BK441 := n1_; have HB := n2_; clear n0_ n1_ n2_; (try clear hb); (try clear hb2); (try clear hk); (try clear hi)) | ((with_reducible refine gate_callee (f := 59) rfl ?_); refine goesL_ (some 70) rfl rfl Try.func59 (by kernel_rfl) rfl #[.bool (decide (t445 ≤ 0))] rfl (by (try simp only [List.map_toArray, List.map_cons, List.map_nil]); first | done | rfl | (simp only [List.length_drop, List.length_take]; rfl)) ?_; (with_reducible refine (impl_truthIf.calls (decide (t445 ≤ 0)) t456 _ A94.out).mono ?_); rintro e w' ⟨rfl, ⟨nd, rfl⟩⟩; refine ⟨_, rfl, ?_⟩))
                          go_ret
                          exact ⟨by first | rfl | (simp [errW_none, errW_some] <;> rfl) | (simp [*, errW_none, errW_some] <;> rfl), by repeat (first | (with_reducible first | exact HB.out | apply below_alloc | apply pw_below_drewN | apply below_drew1 | refine below_set ?_ GE440.out | refine below_set ?_ GE441.out) | exact HB.out)⟩
                        · rw [if_neg c93] at H
                          have c93b0 : (a0 == 4) = false := beq_eq_false_iff_ne.mpr c93
                          have c93b1 : (a0 != 4) = true := bne_iff_ne.mpr c93
                          replace H := Option.bind_eq_some_iff.mp H
                          obtain ⟨t457, A990, H⟩ := H
                          replace H : (some t457) = some r := H
                          have A99 := Aside0.mk A990
                          clear A990
                          obtain rfl := Option.some.inj H
                          have hnb100 := NB440_441.out
                          have hnc100 := NB441_440.out
                          have hcz101_0 : wc.cell? ⟨gb440, 0, none⟩ = some (.int .i64 a1_0) := (blk_cell BK440.out 0).trans rfl
                          have hcz101_1 : wc.cell? ⟨gb440, 1, none⟩ = some (.int .i64 a1_1) := (blk_cell BK440.out 1).trans rfl
                          have hcz101_2 : wc.cell? ⟨gb440, 2, none⟩ = some (.string a1_2) := (blk_cell BK440.out 2).trans rfl
                          have hfz101_0 := blk_frozen BK440.out 0
                          have hfz101_1 := blk_frozen BK440.out 1
                          have hfz101_2 := blk_frozen BK440.out 2
                          have hcz102_0 : wc.cell? ⟨gb441, 0, none⟩ = some (.int .i64 a2_0) := (blk_cell BK441.out 0).trans rfl
                          have hcz102_1 : wc.cell? ⟨gb441, 1, none⟩ = some (.int .i64 a2_1) := (blk_cell BK441.out 1).trans rfl
                          have hcz102_2 : wc.cell? ⟨gb441, 2, none⟩ = some (.string a2_2) := (blk_cell BK441.out 2).trans rfl
                          have hfz102_0 := blk_frozen BK441.out 0
                          have hfz102_1 := blk_frozen BK441.out 1
                          have hfz102_2 := blk_frozen BK441.out 2
                          go_wp2_with (first | ((with_reducible refine gate_callee (f := 51) rfl ?_); refine goesL_ (some 39) rfl rfl Try.func51 (by kernel_rfl) rfl #[.agg #[.int .i64 a1_0, .int .i64 a1_1, .string a1_2], .agg #[.int .i64 a2_0, .int .i64 a2_1, .string a2_2]] rfl (by (try simp only [List.map_toArray, List.map_cons, List.map_nil]); first | done | rfl | (simp only [List.length_drop, List.length_take]; rfl)) ?_; (with_reducible refine (impl_Value_order.calls kj20 a1_0 a1_1 a1_2 a2_0 a2_1 a2_2 t445 _ A30.out).mono ?_); rintro e w103 ⟨rfl, hb⟩; refine ⟨_, rfl, ?_⟩; have n0_ := Aside0.mk (blk_below (g := gb440) (o := .cells #[.int .i64 a1_0, .int .i64 a1_1, .string a1_2] 27 (0, 0)) (by (with_reducible repeat (first | refine blk_drewN ?_ _ | refine blk_drew ?_ | refine blk_alloc ?_ _)); exact BK440.out) hb); have n1_ := Aside0.mk (blk_below (g := gb441) (o := .cells #[.int .i64 a2_0, .int .i64 a2_1, .string a2_2] 27 (0, 0)) (by (with_reducible repeat (first | refine blk_drewN ?_ _ | refine blk_drew ?_ | refine blk_alloc ?_ _)); exact BK441.out) hb); have n2_ := Aside0.mk (below_step (by repeat (first | (with_reducible first | exact HB.out | apply below_alloc | apply pw_below_drewN | apply below_drew1 | refine below_set ?_ GE440.out | refine below_set ?_ GE441.out) | exact HB.out)) hb); clear BK440; clear BK441; clear HB; have BK440 := n0_; have BK441 := n1_; have HB := n2_; clear n0_ n1_ n2_; (try clear hb); (try clear hb2); (try clear hk); (try clear hi)) | ((with_reducible refine gate_callee (f := 59) rfl ?_); refine goesL_ (some 70) rfl rfl Try.func59 (by kernel_rfl) rfl #[.bool false] rfl (by (try simp only [List.map_toArray, List.map_cons, List.map_nil]); first | done | rfl | (simp only [List.length_drop, List.length_take]; rfl)) ?_; (with_reducible refine (impl_truthIf.calls false t457 _ A99.out).mono ?_); rintro e w' ⟨rfl, ⟨nd, rfl⟩⟩; refine ⟨_, rfl, ?_⟩))
                          go_ret
                          exact ⟨by first | rfl | (simp [errW_none, errW_some] <;> rfl) | (simp [*, errW_none, errW_some] <;> rfl), by repeat (first | (with_reducible first | exact HB.out | apply below_alloc | apply pw_below_drewN | apply below_drew1 | refine below_set ?_ GE440.out | refine below_set ?_ GE441.out) | exact HB.out)⟩
                    · rw [if_neg c74] at H
                      have c74b0 : (t445 == 0) = false := beq_eq_false_iff_ne.mpr c74
                      have c74b1 : (t445 != 0) = true := bne_iff_ne.mpr c74
                      replace H := Option.bind_eq_some_iff.mp H
                      obtain ⟨t458, A1040, H⟩ := H
                      replace H : (some t458) = some r := H
                      have A104 := Aside0.mk A1040
                      clear A1040
                      obtain rfl := Option.some.inj H
                      have hnb105 := NB440_441.out
                      have hnc105 := NB441_440.out
                      have hcz106_0 : wc.cell? ⟨gb440, 0, none⟩ = some (.int .i64 a1_0) := (blk_cell BK440.out 0).trans rfl
                      have hcz106_1 : wc.cell? ⟨gb440, 1, none⟩ = some (.int .i64 a1_1) := (blk_cell BK440.out 1).trans rfl
                      have hcz106_2 : wc.cell? ⟨gb440, 2, none⟩ = some (.string a1_2) := (blk_cell BK440.out 2).trans rfl
                      have hfz106_0 := blk_frozen BK440.out 0
                      have hfz106_1 := blk_frozen BK440.out 1
                      have hfz106_2 := blk_frozen BK440.out 2
                      have hcz107_0 : wc.cell? ⟨gb441, 0, none⟩ = some (.int .i64 a2_0) := (blk_cell BK441.out 0).trans rfl
                      have hcz107_1 : wc.cell? ⟨gb441, 1, none⟩ = some (.int .i64 a2_1) := (blk_cell BK441.out 1).trans rfl
                      have hcz107_2 : wc.cell? ⟨gb441, 2, none⟩ = some (.string a2_2) := (blk_cell BK441.out 2).trans rfl
                      have hfz107_0 := blk_frozen BK441.out 0
                      have hfz107_1 := blk_frozen BK441.out 1
                      have hfz107_2 := blk_frozen BK441.out 2
                      go_wp2_with (first | ((with_reducible refine gate_callee (f := 51) rfl ?_); refine goesL_ (some 39) rfl rfl Try.func51 (by kernel_rfl) rfl #[.agg #[.int .i64 a1_0, .int .i64 a1_1, .string a1_2], .agg #[.int .i64 a2_0, .int .i64 a2_1, .string a2_2]] rfl (by (try simp only [List.map_toArray, List.map_cons, List.map_nil]); first | done | rfl | (simp only [List.length_drop, List.length_take]; rfl)) ?_; (with_reducible refine (impl_Value_order.calls kj20 a1_0 a1_1 a1_2 a2_0 a2_1 a2_2 t445 _ A30.out).mono ?_); rintro e w108 ⟨rfl, hb⟩; refine ⟨_, rfl, ?_⟩; have n0_ := Aside0.mk (blk_below (g := gb440) (o := .cells #[.int .i64 a1_0, .int .i64 a1_1, .string a1_2] 27 (0, 0)) (by (with_reducible repeat (first | refine blk_drewN ?_ _ | refine blk_drew ?_ | refine blk_alloc ?_ _)); exact BK440.out) hb); have n1_ := Aside0.mk (blk_below (g := gb441) (o := .cells #[.int .i64 a2_0, .int .i64 a2_1, .string a2_2] 27 (0, 0)) (by (with_reducible repeat (first | refine blk_drewN ?_ _ | refine blk_drew ?_ | refine blk_alloc ?_ _)); exact BK441.out) hb); have n2_ := Aside0.mk (below_step (by repeat (first | (with_reducible first | exact HB.out | apply below_alloc | apply pw_below_drewN | apply below_drew1 | refine below_set ?_ GE440.out | refine below_set ?_ GE441.out) | exact HB.out)) hb); clear BK440; clear BK441; clear HB; have BK440 := n0_; have BK441 := n1_; have HB := n2_; clear n0_ n1_ n2_; (try clear hb); (try clear hb2); (try clear hk); (try clear hi)) | ((with_reducible refine gate_callee (f := 59) rfl ?_); refine goesL_ (some 70) rfl rfl Try.func59 (by kernel_rfl) rfl #[.bool true] rfl (by (try simp only [List.map_toArray, List.map_cons, List.map_nil]); first | done | rfl | (simp only [List.length_drop, List.length_take]; rfl)) ?_; (with_reducible refine (impl_truthIf.calls true t458 _ A104.out).mono ?_); rintro e w' ⟨rfl, ⟨nd, rfl⟩⟩; refine ⟨_, rfl, ?_⟩))
                      go_ret
                      exact ⟨by first | rfl | (simp [errW_none, errW_some] <;> rfl) | (simp [*, errW_none, errW_some] <;> rfl), by repeat (first | (with_reducible first | exact HB.out | apply below_alloc | apply pw_below_drewN | apply below_drew1 | refine below_set ?_ GE440.out | refine below_set ?_ GE441.out) | exact HB.out)⟩
                  · rw [if_neg c73] at H
                    have c73b0 : (a0 == 2) = false := beq_eq_false_iff_ne.mpr c73
                    have c73b1 : (a0 != 2) = true := bne_iff_ne.mpr c73
                    by_cases c109 : a0 = 3
                    · rw [if_pos c109] at H
                      have c109b0 : (a0 == 3) = true := beq_iff_eq.mpr c109
                      have c109b1 : (a0 != 3) = false := bne_eq_false_iff_eq.mpr c109
                      clear c109
                      by_cases c110 : t445 < 0
                      · rw [if_pos c110] at H
                        have c110b0 : decide (t445 < 0) = true := decide_eq_true c110
                        clear c110
                        replace H := Option.bind_eq_some_iff.mp H
                        obtain ⟨t459, A1110, H⟩ := H
                        replace H : (some t459) = some r := H
                        have A111 := Aside0.mk A1110
                        clear A1110
                        obtain rfl := Option.some.inj H
                        have hnb112 := NB440_441.out
                        have hnc112 := NB441_440.out
                        have hcz113_0 : wc.cell? ⟨gb440, 0, none⟩ = some (.int .i64 a1_0) := (blk_cell BK440.out 0).trans rfl
                        have hcz113_1 : wc.cell? ⟨gb440, 1, none⟩ = some (.int .i64 a1_1) := (blk_cell BK440.out 1).trans rfl
                        have hcz113_2 : wc.cell? ⟨gb440, 2, none⟩ = some (.string a1_2) := (blk_cell BK440.out 2).trans rfl
                        have hfz113_0 := blk_frozen BK440.out 0
                        have hfz113_1 := blk_frozen BK440.out 1
                        have hfz113_2 := blk_frozen BK440.out 2
                        have hcz114_0 : wc.cell? ⟨gb441, 0, none⟩ = some (.int .i64 a2_0) := (blk_cell BK441.out 0).trans rfl
                        have hcz114_1 : wc.cell? ⟨gb441, 1, none⟩ = some (.int .i64 a2_1) := (blk_cell BK441.out 1).trans rfl
                        have hcz114_2 : wc.cell? ⟨gb441, 2, none⟩ = some (.string a2_2) := (blk_cell BK441.out 2).trans rfl
                        have hfz114_0 := blk_frozen BK441.out 0
                        have hfz114_1 := blk_frozen BK441.out 1
                        have hfz114_2 := blk_frozen BK441.out 2
                        go_wp2_with (first | ((with_reducible refine gate_callee (f := 51) rfl ?_); refine goesL_ (some 39) rfl rfl Try.func51 (by kernel_rfl) rfl #[.agg #[.int .i64 a1_0, .int .i64 a1_1, .string a1_2], .agg #[.int .i64 a2_0, .int .i64 a2_1, .string a2_2]] rfl (by (try simp only [List.map_toArray, List.map_cons, List.map_nil]); first | done | rfl | (simp only [List.length_drop, List.length_take]; rfl)) ?_; (with_reducible refine (impl_Value_order.calls kj20 a1_0 a1_1 a1_2 a2_0 a2_1 a2_2 t445 _ A30.out).mono ?_); rintro e w115 ⟨rfl, hb⟩; refine ⟨_, rfl, ?_⟩; have n0_ := Aside0.mk (blk_below (g := gb440) (o := .cells #[.int .i64 a1_0, .int .i64 a1_1, .string a1_2] 27 (0, 0)) (by (with_reducible repeat (first | refine blk_drewN ?_ _ | refine blk_drew ?_ | refine blk_alloc ?_ _)); exact BK440.out) hb); have n1_ := Aside0.mk (blk_below (g := gb441) (o := .cells #[.int .i64 a2_0, .int .i64 a2_1, .string a2_2] 27 (0, 0)) (by (with_reducible repeat (first | refine blk_drewN ?_ _ | refine blk_drew ?_ | refine blk_alloc ?_ _)); exact BK441.out) hb); have n2_ := Aside0.mk (below_step (by repeat (first | (with_reducible first | exact HB.out | apply below_alloc | apply pw_below_drewN | apply below_drew1 | refine below_set ?_ GE440.out | refine below_set ?_ GE441.out) | exact HB.out)) hb); clear BK440; clear BK441; clear HB; have BK440 := n0_; have BK441 := n1_; have HB := n2_; clear n0_ n1_ n2_; (try clear hb); (try clear hb2); (try clear hk); (try clear hi)) | ((with_reducible refine gate_callee (f := 59) rfl ?_); refine goesL_ (some 70) rfl rfl Try.func59 (by kernel_rfl) rfl #[.bool true] rfl (by (try simp only [List.map_toArray, List.map_cons, List.map_nil]); first | done | rfl | (simp only [List.length_drop, List.length_take]; rfl)) ?_; (with_reducible refine (impl_truthIf.calls true t459 _ A111.out).mono ?_); rintro e w' ⟨rfl, ⟨nd, rfl⟩⟩; refine ⟨_, rfl, ?_⟩))
                        go_ret
                        exact ⟨by first | rfl | (simp [errW_none, errW_some] <;> rfl) | (simp [*, errW_none, errW_some] <;> rfl), by repeat (first | (with_reducible first | exact HB.out | apply below_alloc | apply pw_below_drewN | apply below_drew1 | refine below_set ?_ GE440.out | refine below_set ?_ GE441.out) | exact HB.out)⟩
                      · rw [if_neg c110] at H
                        have c110b0 : decide (t445 < 0) = false := decide_eq_false c110
                        clear c110
                        by_cases c116 : a0 = 4
                        · rw [if_pos c116] at H
                          have c116b0 : (a0 == 4) = true := beq_iff_eq.mpr c116
                          have c116b1 : (a0 != 4) = false := bne_eq_false_iff_eq.mpr c116
                          clear c116
                          replace H := Option.bind_eq_some_iff.mp H
                          obtain ⟨t460, A1170, H⟩ := H
                          replace H : (some t460) = some r := H
                          have A117 := Aside0.mk A1170
                          clear A1170
                          obtain rfl := Option.some.inj H
                          have hnb118 := NB440_441.out
                          have hnc118 := NB441_440.out
                          have hcz119_0 : wc.cell? ⟨gb440, 0, none⟩ = some (.int .i64 a1_0) := (blk_cell BK440.out 0).trans rfl
                          have hcz119_1 : wc.cell? ⟨gb440, 1, none⟩ = some (.int .i64 a1_1) := (blk_cell BK440.out 1).trans rfl
                          have hcz119_2 : wc.cell? ⟨gb440, 2, none⟩ = some (.string a1_2) := (blk_cell BK440.out 2).trans rfl
                          have hfz119_0 := blk_frozen BK440.out 0
                          have hfz119_1 := blk_frozen BK440.out 1
                          have hfz119_2 := blk_frozen BK440.out 2
                          have hcz120_0 : wc.cell? ⟨gb441, 0, none⟩ = some (.int .i64 a2_0) := (blk_cell BK441.out 0).trans rfl
                          have hcz120_1 : wc.cell? ⟨gb441, 1, none⟩ = some (.int .i64 a2_1) := (blk_cell BK441.out 1).trans rfl
                          have hcz120_2 : wc.cell? ⟨gb441, 2, none⟩ = some (.string a2_2) := (blk_cell BK441.out 2).trans rfl
                          have hfz120_0 := blk_frozen BK441.out 0
                          have hfz120_1 := blk_frozen BK441.out 1
                          have hfz120_2 := blk_frozen BK441.out 2
                          go_wp2_with (first | ((with_reducible refine gate_callee (f := 51) rfl ?_); refine goesL_ (some 39) rfl rfl Try.func51 (by kernel_rfl) rfl #[.agg #[.int .i64 a1_0, .int .i64 a1_1, .string a1_2], .agg #[.int .i64 a2_0, .int .i64 a2_1, .string a2_2]] rfl (by (try simp only [List.map_toArray, List.map_cons, List.map_nil]); first | done | rfl | (simp only [List.length_drop, List.length_take]; rfl)) ?_; (with_reducible refine (impl_Value_order.calls kj20 a1_0 a1_1 a1_2 a2_0 a2_1 a2_2 t445 _ A30.out).mono ?_); rintro e w121 ⟨rfl, hb⟩; refine ⟨_, rfl, ?_⟩; have n0_ := Aside0.mk (blk_below (g := gb440) (o := .cells #[.int .i64 a1_0, .int .i64 a1_1, .string a1_2] 27 (0, 0)) (by (with_reducible repeat (first | refine blk_drewN ?_ _ | refine blk_drew ?_ | refine blk_alloc ?_ _)); exact BK440.out) hb); have n1_ := Aside0.mk (blk_below (g := gb441) (o := .cells #[.int .i64 a2_0, .int .i64 a2_1, .string a2_2] 27 (0, 0)) (by (with_reducible repeat (first | refine blk_drewN ?_ _ | refine blk_drew ?_ | refine blk_alloc ?_ _)); exact BK441.out) hb); have n2_ := Aside0.mk (below_step (by repeat (first | (with_reducible first | exact HB.out | apply below_alloc | apply pw_below_drewN | apply below_drew1 | refine below_set ?_ GE440.out | refine below_set ?_ GE441.out) | exact HB.out)) hb); clear BK440; clear BK441; clear HB; have BK440 := n0_; have BK441 := n1_; have HB := n2_; clear n0_ n1_ n2_; (try clear hb); (try clear hb2); (try clear hk); (try clear hi)) | ((with_reducible refine gate_callee (f := 59) rfl ?_); refine goesL_ (some 70) rfl rfl Try.func59 (by kernel_rfl) rfl #[.bool (decide (t445 ≤ 0))] rfl (by (try simp only [List.map_toArray, List.map_cons, List.map_nil]); first | done | rfl | (simp only [List.length_drop, List.length_take]; rfl)) ?_; (with_reducible refine (impl_truthIf.calls (decide (t445 ≤ 0)) t460 _ A117.out).mono ?_); rintro e w' ⟨rfl, ⟨nd, rfl⟩⟩; refine ⟨_, rfl, ?_⟩))
                          go_ret
                          exact ⟨by first | rfl | (simp [errW_none, errW_some] <;> rfl) | (simp [*, errW_none, errW_some] <;> rfl), by repeat (first | (with_reducible first | exact HB.out | apply below_alloc | apply pw_below_drewN | apply below_drew1 | refine below_set ?_ GE440.out | refine below_set ?_ GE441.out) | exact HB.out)⟩
                        · rw [if_neg c116] at H
                          have c116b0 : (a0 == 4) = false := beq_eq_false_iff_ne.mpr c116
                          have c116b1 : (a0 != 4) = true := bne_iff_ne.mpr c116
                          replace H := Option.bind_eq_some_iff.mp H
                          obtain ⟨t461, A1220, H⟩ := H
                          replace H : (some t461) = some r := H
                          have A122 := Aside0.mk A1220
                          clear A1220
                          obtain rfl := Option.some.inj H
                          have hnb123 := NB440_441.out
                          have hnc123 := NB441_440.out
                          have hcz124_0 : wc.cell? ⟨gb440, 0, none⟩ = some (.int .i64 a1_0) := (blk_cell BK440.out 0).trans rfl
                          have hcz124_1 : wc.cell? ⟨gb440, 1, none⟩ = some (.int .i64 a1_1) := (blk_cell BK440.out 1).trans rfl
                          have hcz124_2 : wc.cell? ⟨gb440, 2, none⟩ = some (.string a1_2) := (blk_cell BK440.out 2).trans rfl
                          have hfz124_0 := blk_frozen BK440.out 0
                          have hfz124_1 := blk_frozen BK440.out 1
                          have hfz124_2 := blk_frozen BK440.out 2
                          have hcz125_0 : wc.cell? ⟨gb441, 0, none⟩ = some (.int .i64 a2_0) := (blk_cell BK441.out 0).trans rfl
                          have hcz125_1 : wc.cell? ⟨gb441, 1, none⟩ = some (.int .i64 a2_1) := (blk_cell BK441.out 1).trans rfl
                          have hcz125_2 : wc.cell? ⟨gb441, 2, none⟩ = some (.string a2_2) := (blk_cell BK441.out 2).trans rfl
                          have hfz125_0 := blk_frozen BK441.out 0
                          have hfz125_1 := blk_frozen BK441.out 1
                          have hfz125_2 := blk_frozen BK441.out 2
                          go_wp2_with (first | ((with_reducible refine gate_callee (f := 51) rfl ?_); refine goesL_ (some 39) rfl rfl Try.func51 (by kernel_rfl) rfl #[.agg #[.int .i64 a1_0, .int .i64 a1_1, .string a1_2], .agg #[.int .i64 a2_0, .int .i64 a2_1, .string a2_2]] rfl (by (try simp only [List.map_toArray, List.map_cons, List.map_nil]); first | done | rfl | (simp only [List.length_drop, List.length_take]; rfl)) ?_; (with_reducible refine (impl_Value_order.calls kj20 a1_0 a1_1 a1_2 a2_0 a2_1 a2_2 t445 _ A30.out).mono ?_); rintro e w126 ⟨rfl, hb⟩; refine ⟨_, rfl, ?_⟩; have n0_ := Aside0.mk (blk_below (g := gb440) (o := .cells #[.int .i64 a1_0, .int .i64 a1_1, .string a1_2] 27 (0, 0)) (by (with_reducible repeat (first | refine blk_drewN ?_ _ | refine blk_drew ?_ | refine blk_alloc ?_ _)); exact BK440.out) hb); have n1_ := Aside0.mk (blk_below (g := gb441) (o := .cells #[.int .i64 a2_0, .int .i64 a2_1, .string a2_2] 27 (0, 0)) (by (with_reducible repeat (first | refine blk_drewN ?_ _ | refine blk_drew ?_ | refine blk_alloc ?_ _)); exact BK441.out) hb); have n2_ := Aside0.mk (below_step (by repeat (first | (with_reducible first | exact HB.out | apply below_alloc | apply pw_below_drewN | apply below_drew1 | refine below_set ?_ GE440.out | refine below_set ?_ GE441.out) | exact HB.out)) hb); clear BK440; clear BK441; clear HB; have BK440 := n0_; have BK441 := n1_; have HB := n2_; clear n0_ n1_ n2_; (try clear hb); (try clear hb2); (try clear hk); (try clear hi)) | ((with_reducible refine gate_callee (f := 59) rfl ?_); refine goesL_ (some 70) rfl rfl Try.func59 (by kernel_rfl) rfl #[.bool false] rfl (by (try simp only [List.map_toArray, List.map_cons, List.map_nil]); first | done | rfl | (simp only [List.length_drop, List.length_take]; rfl)) ?_; (with_reducible refine (impl_truthIf.calls false t461 _ A122.out).mono ?_); rintro e w' ⟨rfl, ⟨nd, rfl⟩⟩; refine ⟨_, rfl, ?_⟩))
                          go_ret
                          exact ⟨by first | rfl | (simp [errW_none, errW_some] <;> rfl) | (simp [*, errW_none, errW_some] <;> rfl), by repeat (first | (with_reducible first | exact HB.out | apply below_alloc | apply pw_below_drewN | apply below_drew1 | refine below_set ?_ GE440.out | refine below_set ?_ GE441.out) | exact HB.out)⟩
                    · rw [if_neg c109] at H
                      have c109b0 : (a0 == 3) = false := beq_eq_false_iff_ne.mpr c109
                      have c109b1 : (a0 != 3) = true := bne_iff_ne.mpr c109
                      by_cases c127 : a0 = 4
                      · rw [if_pos c127] at H
                        have c127b0 : (a0 == 4) = true := beq_iff_eq.mpr c127
                        have c127b1 : (a0 != 4) = false := bne_eq_false_iff_eq.mpr c127
                        clear c127
                        replace H := Option.bind_eq_some_iff.mp H
                        obtain ⟨t462, A1280, H⟩ := H
                        replace H : (some t462) = some r := H
                        have A128 := Aside0.mk A1280
                        clear A1280
                        obtain rfl := Option.some.inj H
                        have hnb129 := NB440_441.out
                        have hnc129 := NB441_440.out
                        have hcz130_0 : wc.cell? ⟨gb440, 0, none⟩ = some (.int .i64 a1_0) := (blk_cell BK440.out 0).trans rfl
                        have hcz130_1 : wc.cell? ⟨gb440, 1, none⟩ = some (.int .i64 a1_1) := (blk_cell BK440.out 1).trans rfl
                        have hcz130_2 : wc.cell? ⟨gb440, 2, none⟩ = some (.string a1_2) := (blk_cell BK440.out 2).trans rfl
                        have hfz130_0 := blk_frozen BK440.out 0
                        have hfz130_1 := blk_frozen BK440.out 1
                        have hfz130_2 := blk_frozen BK440.out 2
                        have hcz131_0 : wc.cell? ⟨gb441, 0, none⟩ = some (.int .i64 a2_0) := (blk_cell BK441.out 0).trans rfl
                        have hcz131_1 : wc.cell? ⟨gb441, 1, none⟩ = some (.int .i64 a2_1) := (blk_cell BK441.out 1).trans rfl
                        have hcz131_2 : wc.cell? ⟨gb441, 2, none⟩ = some (.string a2_2) := (blk_cell BK441.out 2).trans rfl
                        have hfz131_0 := blk_frozen BK441.out 0
                        have hfz131_1 := blk_frozen BK441.out 1
                        have hfz131_2 := blk_frozen BK441.out 2
                        go_wp2_with (first | ((with_reducible refine gate_callee (f := 51) rfl ?_); refine goesL_ (some 39) rfl rfl Try.func51 (by kernel_rfl) rfl #[.agg #[.int .i64 a1_0, .int .i64 a1_1, .string a1_2], .agg #[.int .i64 a2_0, .int .i64 a2_1, .string a2_2]] rfl (by (try simp only [List.map_toArray, List.map_cons, List.map_nil]); first | done | rfl | (simp only [List.length_drop, List.length_take]; rfl)) ?_; (with_reducible refine (impl_Value_order.calls kj20 a1_0 a1_1 a1_2 a2_0 a2_1 a2_2 t445 _ A30.out).mono ?_); rintro e w132 ⟨rfl, hb⟩; refine ⟨_, rfl, ?_⟩; have n0_ := Aside0.mk (blk_below (g := gb440) (o := .cells #[.int .i64 a1_0, .int .i64 a1_1, .string a1_2] 27 (0, 0)) (by (with_reducible repeat (first | refine blk_drewN ?_ _ | refine blk_drew ?_ | refine blk_alloc ?_ _)); exact BK440.out) hb); have n1_ := Aside0.mk (blk_below (g := gb441) (o := .cells #[.int .i64 a2_0, .int .i64 a2_1, .string a2_2] 27 (0, 0)) (by (with_reducible repeat (first | refine blk_drewN ?_ _ | refine blk_drew ?_ | refine blk_alloc ?_ _)); exact BK441.out) hb); have n2_ := Aside0.mk (below_step (by repeat (first | (with_reducible first | exact HB.out | apply below_alloc | apply pw_below_drewN | apply below_drew1 | refine below_set ?_ GE440.out | refine below_set ?_ GE441.out) | exact HB.out)) hb); clear BK440; clear BK441; clear HB; have BK440 := n0_; have BK441 := n1_; have HB := n2_; clear n0_ n1_ n2_; (try clear hb); (try clear hb2); (try clear hk); (try clear hi)) | ((with_reducible refine gate_callee (f := 59) rfl ?_); refine goesL_ (some 70) rfl rfl Try.func59 (by kernel_rfl) rfl #[.bool (decide (t445 ≤ 0))] rfl (by (try simp only [List.map_toArray, List.map_cons, List.map_nil]); first | done | rfl | (simp only [List.length_drop, List.length_take]; rfl)) ?_; (with_reducible refine (impl_truthIf.calls (decide (t445 ≤ 0)) t462 _ A128.out).mono ?_); rintro e w' ⟨rfl, ⟨nd, rfl⟩⟩; refine ⟨_, rfl, ?_⟩))
                        go_ret
                        exact ⟨by first | rfl | (simp [errW_none, errW_some] <;> rfl) | (simp [*, errW_none, errW_some] <;> rfl), by repeat (first | (with_reducible first | exact HB.out | apply below_alloc | apply pw_below_drewN | apply below_drew1 | refine below_set ?_ GE440.out | refine below_set ?_ GE441.out) | exact HB.out)⟩
                      · rw [if_neg c127] at H
                        have c127b0 : (a0 == 4) = false := beq_eq_false_iff_ne.mpr c127
                        have c127b1 : (a0 != 4) = true := bne_iff_ne.mpr c127
                        replace H := Option.bind_eq_some_iff.mp H
                        obtain ⟨t463, A1330, H⟩ := H
                        replace H : (some t463) = some r := H
                        have A133 := Aside0.mk A1330
                        clear A1330
                        obtain rfl := Option.some.inj H
                        have hnb134 := NB440_441.out
                        have hnc134 := NB441_440.out
                        have hcz135_0 : wc.cell? ⟨gb440, 0, none⟩ = some (.int .i64 a1_0) := (blk_cell BK440.out 0).trans rfl
                        have hcz135_1 : wc.cell? ⟨gb440, 1, none⟩ = some (.int .i64 a1_1) := (blk_cell BK440.out 1).trans rfl
                        have hcz135_2 : wc.cell? ⟨gb440, 2, none⟩ = some (.string a1_2) := (blk_cell BK440.out 2).trans rfl
                        have hfz135_0 := blk_frozen BK440.out 0
                        have hfz135_1 := blk_frozen BK440.out 1
                        have hfz135_2 := blk_frozen BK440.out 2
                        have hcz136_0 : wc.cell? ⟨gb441, 0, none⟩ = some (.int .i64 a2_0) := (blk_cell BK441.out 0).trans rfl
                        have hcz136_1 : wc.cell? ⟨gb441, 1, none⟩ = some (.int .i64 a2_1) := (blk_cell BK441.out 1).trans rfl
                        have hcz136_2 : wc.cell? ⟨gb441, 2, none⟩ = some (.string a2_2) := (blk_cell BK441.out 2).trans rfl
                        have hfz136_0 := blk_frozen BK441.out 0
                        have hfz136_1 := blk_frozen BK441.out 1
                        have hfz136_2 := blk_frozen BK441.out 2
                        go_wp2_with (first | ((with_reducible refine gate_callee (f := 51) rfl ?_); refine goesL_ (some 39) rfl rfl Try.func51 (by kernel_rfl) rfl #[.agg #[.int .i64 a1_0, .int .i64 a1_1, .string a1_2], .agg #[.int .i64 a2_0, .int .i64 a2_1, .string a2_2]] rfl (by (try simp only [List.map_toArray, List.map_cons, List.map_nil]); first | done | rfl | (simp only [List.length_drop, List.length_take]; rfl)) ?_; (with_reducible refine (impl_Value_order.calls kj20 a1_0 a1_1 a1_2 a2_0 a2_1 a2_2 t445 _ A30.out).mono ?_); rintro e w137 ⟨rfl, hb⟩; refine ⟨_, rfl, ?_⟩; have n0_ := Aside0.mk (blk_below (g := gb440) (o := .cells #[.int .i64 a1_0, .int .i64 a1_1, .string a1_2] 27 (0, 0)) (by (with_reducible repeat (first | refine blk_drewN ?_ _ | refine blk_drew ?_ | refine blk_alloc ?_ _)); exact BK440.out) hb); have n1_ := Aside0.mk (blk_below (g := gb441) (o := .cells #[.int .i64 a2_0, .int .i64 a2_1, .string a2_2] 27 (0, 0)) (by (with_reducible repeat (first | refine blk_drewN ?_ _ | refine blk_drew ?_ | refine blk_alloc ?_ _)); exact BK441.out) hb); have n2_ := Aside0.mk (below_step (by repeat (first | (with_reducible first | exact HB.out | apply below_alloc | apply pw_below_drewN | apply below_drew1 | refine below_set ?_ GE440.out | refine below_set ?_ GE441.out) | exact HB.out)) hb); clear BK440; clear BK441; clear HB; have BK440 := n0_; have BK441 := n1_; have HB := n2_; clear n0_ n1_ n2_; (try clear hb); (try clear hb2); (try clear hk); (try clear hi)) | ((with_reducible refine gate_callee (f := 59) rfl ?_); refine goesL_ (some 70) rfl rfl Try.func59 (by kernel_rfl) rfl #[.bool false] rfl (by (try simp only [List.map_toArray, List.map_cons, List.map_nil]); first | done | rfl | (simp only [List.length_drop, List.length_take]; rfl)) ?_; (with_reducible refine (impl_truthIf.calls false t463 _ A133.out).mono ?_); rintro e w' ⟨rfl, ⟨nd, rfl⟩⟩; refine ⟨_, rfl, ?_⟩))
                        go_ret
                        exact ⟨by first | rfl | (simp [errW_none, errW_some] <;> rfl) | (simp [*, errW_none, errW_some] <;> rfl), by repeat (first | (with_reducible first | exact HB.out | apply below_alloc | apply pw_below_drewN | apply below_drew1 | refine below_set ?_ GE440.out | refine below_set ?_ GE441.out) | exact HB.out)⟩
              · rw [if_neg c29] at H
                have c29b0 : (a1_0 == a2_0) = false := beq_eq_false_iff_ne.mpr c29
                have c29b1 : (a1_0 != a2_0) = true := bne_iff_ne.mpr c29
                obtain rfl := Option.some.inj H
                have hnb138 := NB440_441.out
                have hnc138 := NB441_440.out
                have hcz139_0 : wc.cell? ⟨gb440, 0, none⟩ = some (.int .i64 a1_0) := (blk_cell BK440.out 0).trans rfl
                have hcz139_1 : wc.cell? ⟨gb440, 1, none⟩ = some (.int .i64 a1_1) := (blk_cell BK440.out 1).trans rfl
                have hcz139_2 : wc.cell? ⟨gb440, 2, none⟩ = some (.string a1_2) := (blk_cell BK440.out 2).trans rfl
                have hfz139_0 := blk_frozen BK440.out 0
                have hfz139_1 := blk_frozen BK440.out 1
                have hfz139_2 := blk_frozen BK440.out 2
                have hcz140_0 : wc.cell? ⟨gb441, 0, none⟩ = some (.int .i64 a2_0) := (blk_cell BK441.out 0).trans rfl
                have hcz140_1 : wc.cell? ⟨gb441, 1, none⟩ = some (.int .i64 a2_1) := (blk_cell BK441.out 1).trans rfl
                have hcz140_2 : wc.cell? ⟨gb441, 2, none⟩ = some (.string a2_2) := (blk_cell BK441.out 2).trans rfl
                have hfz140_0 := blk_frozen BK441.out 0
                have hfz140_1 := blk_frozen BK441.out 1
                have hfz140_2 := blk_frozen BK441.out 2
                go_wp2
                go_ret
                exact ⟨by first | rfl | (simp [errW_none, errW_some] <;> rfl) | (simp [*, errW_none, errW_some] <;> rfl), by repeat (first | (with_reducible first | exact HB.out | apply below_alloc | apply pw_below_drewN | apply below_drew1 | refine below_set ?_ GE440.out | refine below_set ?_ GE441.out) | exact HB.out)⟩

end Go.Proofs.Ytdgikheibcmcjaa.X
