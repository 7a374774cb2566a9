/- Plain functions for the Go functions of this seat, and proofs that each call answers as its plain function does; made by this session's program over the kit's printer. -/
import Derived.Test.YtokphjnpkaipcaaX0
import Derived.Test.YtokphjnpkaipcaaX1
import Derived.Test.YtokphjnpkaipcaaX4
import Derived.Test.YtokphjnpkaipcaaX5
import Derived.Test.YtokphjnpkaipcaaX6
namespace Go.Proofs.Ytokphjnpkaipcaa.X
open Go.RowKit Go.Proofs.YtokphjnpkaipcaaV.PrintWords Go.Proofs.YtokphjnpkaipcaaV.PrintLast Go.Proofs.YtokphjnpkaipcaaV.PrintMore
attribute [local go_sem] max2_int min2_int max_two min_two max_three min_three max_four min_four   -- for this text's walks alone
set_option linter.unusedVariables false
set_option linter.unusedSimpArgs false

attribute [local go_sem high] eqA28
/-! ### spec_MustHold: function 29 -/
def spec_MustHold.j0 : Nat → Int → Bool → Int → Int → Int → Int → ByteArray → Int → Int → ByteArray → Int → Int → ByteArray → Option (Bool)
  | 0, _, _, _, _, _, _, _, _, _, _, _, _, _ => none
  | k + 1, x1, x27, x327000, x327001, x327002, x327003, x327004, x327005, x327006, x327007, x328000, x328001, x328002 => if x27 = true then (some false) else (if x1 = 1 then (if (x327002 == x328000 && (x327003 == x328001 && (x327004.toList == x328002.toList))) = true then (some (x327005 == x328000 && (x327006 == x328001 && (x327007.toList == x328002.toList)))) else (some false)) else (if x1 = 2 then ((spec_ValueOrder.f k x328000 x328001 x328002 x327002 x327003 x327004).bind fun t330 => (if t330 < 0 then (some true) else ((spec_ValueOrder.f k x327005 x327006 x327007 x328000 x328001 x328002).bind fun t331 => (some (decide (t331 < 0)))))) else (if x1 = 3 then ((spec_ValueOrder.f k x327005 x327006 x327007 x328000 x328001 x328002).bind fun t332 => (some (decide (t332 < 0)))) else (if x1 = 4 then ((spec_ValueOrder.f k x327005 x327006 x327007 x328000 x328001 x328002).bind fun t333 => (some (decide (t333 ≤ 0)))) else (some false)))))
def spec_MustHold.f (k : Nat) (a0_0 : Int) (a0_1 : Int) (a0_2 : Int) (a0_3 : Int) (a0_4 : ByteArray) (a0_5 : Int) (a0_6 : Int) (a0_7 : ByteArray) (a1 : Int) (a2_0 : Int) (a2_1 : Int) (a2_2 : ByteArray) : Option (Bool) := (spec_KnownOk.f k a0_0 a0_1 a0_2 a0_3 a0_4 a0_5 a0_6 a0_7).bind fun t328 => (if t328 = true then (if a0_0 = 0 then (spec_MustHold.j0 k a1 true a0_0 a0_1 a0_2 a0_3 a0_4 a0_5 a0_6 a0_7 a2_0 a2_1 a2_2) else ((spec_ValueOk.f k a2_0 a2_1 a2_2).bind fun t329 => (if t329 = true then (spec_MustHold.j0 k a1 (a2_0 != a0_2) a0_0 a0_1 a0_2 a0_3 a0_4 a0_5 a0_6 a0_7 a2_0 a2_1 a2_2) else (spec_MustHold.j0 k a1 true a0_0 a0_1 a0_2 a0_3 a0_4 a0_5 a0_6 a0_7 a2_0 a2_1 a2_2)))) else (spec_MustHold.j0 k a1 true a0_0 a0_1 a0_2 a0_3 a0_4 a0_5 a0_6 a0_7 a2_0 a2_1 a2_2))
theorem spec_MustHold.mono_l : ∀ k, (∀ y0 y1 y2 y3 y4 y5 y6 y7 y8 y9 y10 y11 y12, LeO (spec_MustHold.j0 k y0 y1 y2 y3 y4 y5 y6 y7 y8 y9 y10 y11 y12) (spec_MustHold.j0 (k + 1) y0 y1 y2 y3 y4 y5 y6 y7 y8 y9 y10 y11 y12))
  | 0 => fun _ _ _ _ _ _ _ _ _ _ _ _ _ r h => by simp [spec_MustHold.j0] at h
  | k + 1 => by
    have ih0 := spec_MustHold.mono_l k
    · intro y0 y1 y2 y3 y4 y5 y6 y7 y8 y9 y10 y11 y12
      unfold spec_MustHold.j0
      repeat' first
      | (with_reducible exact ih0 _ _ _ _ _ _ _ _ _ _ _ _ _)
      | (with_reducible exact spec_KnownOk.mono _ _ _ _ _ _ _ _ _)
      | (with_reducible exact spec_ValueOk.mono _ _ _ _)
      | (with_reducible exact spec_ValueOrder.mono _ _ _ _ _ _ _)
      | (with_reducible exact LeO.refl _)
      | (with_reducible exact LeO.none _)
      | (with_reducible refine LeO.ite ?_ ?_)
      | (with_reducible refine LeO.bind ?_ (fun _ => ?_))
      | exact ih0 _ _ _ _ _ _ _ _ _ _ _ _ _
      | exact spec_KnownOk.mono _ _ _ _ _ _ _ _ _
      | exact spec_ValueOk.mono _ _ _ _
      | exact spec_ValueOrder.mono _ _ _ _ _ _ _
      | exact LeO.none _
      | refine LeO.ite ?_ ?_
      | refine LeO.bind ?_ (fun _ => ?_)
theorem spec_MustHold.mono : ∀ a0 a1 a2 a3 a4 a5 a6 a7 a8 a9 a10 a11 k, LeO (spec_MustHold.f k a0 a1 a2 a3 a4 a5 a6 a7 a8 a9 a10 a11) (spec_MustHold.f (k + 1) a0 a1 a2 a3 a4 a5 a6 a7 a8 a9 a10 a11) := by
  intro a0 a1 a2 a3 a4 a5 a6 a7 a8 a9 a10 a11 k
  have ih0 := spec_MustHold.mono_l k
  unfold spec_MustHold.f
  repeat' first
      | (with_reducible exact ih0 _ _ _ _ _ _ _ _ _ _ _ _ _)
      | (with_reducible exact spec_KnownOk.mono _ _ _ _ _ _ _ _ _)
      | (with_reducible exact spec_ValueOk.mono _ _ _ _)
      | (with_reducible exact spec_ValueOrder.mono _ _ _ _ _ _ _)
      | (with_reducible exact LeO.refl _)
      | (with_reducible exact LeO.none _)
      | (with_reducible refine LeO.ite ?_ ?_)
      | (with_reducible refine LeO.bind ?_ (fun _ => ?_))
      | exact ih0 _ _ _ _ _ _ _ _ _ _ _ _ _
      | exact spec_KnownOk.mono _ _ _ _ _ _ _ _ _
      | exact spec_ValueOk.mono _ _ _ _
      | exact spec_ValueOrder.mono _ _ _ _ _ _ _
      | exact LeO.none _
      | refine LeO.ite ?_ ?_
      | refine LeO.bind ?_ (fun _ => ?_)
set_option maxHeartbeats 8000000 in
set_option maxRecDepth 100000 in
theorem spec_MustHold.calls (k : Nat) (a0_0 : Int) (a0_1 : Int) (a0_2 : Int) (a0_3 : Int) (a0_4 : ByteArray) (a0_5 : Int) (a0_6 : Int) (a0_7 : ByteArray) (a1 : Int) (a2_0 : Int) (a2_1 : Int) (a2_2 : ByteArray) (r : Bool) (w : World) (h : spec_MustHold.f k a0_0 a0_1 a0_2 a0_3 a0_4 a0_5 a0_6 a0_7 a1 a2_0 a2_1 a2_2 = some r) :
    Calls Try.prog 29 #[.agg #[.int .i64 a0_0, .int .i64 a0_1, .int .i64 a0_2, .int .i64 a0_3, .string a0_4, .int .i64 a0_5, .int .i64 a0_6, .string a0_7], .int .i64 a1, .agg #[.int .i64 a2_0, .int .i64 a2_1, .string a2_2]] w fun e w' => e = .returned (.bool r) ∧ Below w.heap.size w w' := by
  have hu30 := Try.underlying30
  have hu28 := Try.underlying28
  have HB := Aside0.mk (Below.refl w.heap.size w)
  have H : ((spec_KnownOk.f k a0_0 a0_1 a0_2 a0_3 a0_4 a0_5 a0_6 a0_7).bind fun t328 => (if t328 = true then (if a0_0 = 0 then (spec_MustHold.j0 k a1 true a0_0 a0_1 a0_2 a0_3 a0_4 a0_5 a0_6 a0_7 a2_0 a2_1 a2_2) else ((spec_ValueOk.f k a2_0 a2_1 a2_2).bind fun t329 => (if t329 = true then (spec_MustHold.j0 k a1 (a2_0 != a0_2) a0_0 a0_1 a0_2 a0_3 a0_4 a0_5 a0_6 a0_7 a2_0 a2_1 a2_2) else (spec_MustHold.j0 k a1 true a0_0 a0_1 a0_2 a0_3 a0_4 a0_5 a0_6 a0_7 a2_0 a2_1 a2_2)))) else (spec_MustHold.j0 k a1 true a0_0 a0_1 a0_2 a0_3 a0_4 a0_5 a0_6 a0_7 a2_0 a2_1 a2_2))) = some r := h
  clear h
  have HC4 := Aside0.mk H
  clear H
  go_enter Try.func29, Try.ntmps29
  go_upto_region 1 with (first | ((with_reducible refine gate_dst (N := 3) rfl ?_); refine box_event ?hg (N := 3) ?hd (cs := #[.int .i64 a0_0, .int .i64 a0_1, .int .i64 a0_2, .int .i64 a0_3, .string a0_4, .int .i64 a0_5, .int .i64 a0_6, .string a0_7]) (t := 30) ?hr ?_; (case hd => rfl); (case hg => rfl); (case hr => first | (go_simp; done) | (go_simp; rfl)); intro gb326 hg w5 hbox hb; have n0_ := Aside0.mk (below_step (by repeat (first | (with_reducible first | exact HB.out | apply below_alloc | apply pw_below_drewN | apply below_drew1) | exact HB.out)) hb); have n1_ := Aside0.mk (hbox); have n2_ := Aside0.mk ((by rw [hg]; exact (below_size (by repeat (first | (with_reducible first | exact HB.out | apply below_alloc | apply pw_below_drewN | apply below_drew1) | exact HB.out))) : w.heap.size ≤ gb326)); have n3_ := Aside0.mk ((by rw [hg]; exact (below_size (by repeat (first | (with_reducible first | exact HB.out | apply below_alloc | apply pw_below_drewN | apply below_drew1) | exact HB.out))) : w.heap.size ≤ gb326)); clear HB; have HB := n0_; have BK326 := n1_; have GW326 := n2_; have GE326 := n3_; clear n0_ n1_ n2_ n3_; clear hb hbox hg) | ((with_reducible refine gate_dst (N := 5) rfl ?_); refine box_event ?hg (N := 5) ?hd (cs := #[.int .i64 a2_0, .int .i64 a2_1, .string a2_2]) (t := 28) ?hr ?_; (case hd => rfl); (case hg => rfl); (case hr => first | (go_simp; done) | (go_simp; rfl)); intro gb327 hg w6 hbox hb; have n0_ := Aside0.mk (blk_below (g := gb326) (o := .cells #[.int .i64 a0_0, .int .i64 a0_1, .int .i64 a0_2, .int .i64 a0_3, .string a0_4, .int .i64 a0_5, .int .i64 a0_6, .string a0_7] 30 (0, 0)) (by (with_reducible repeat (first | refine blk_drewN ?_ _ | refine blk_drew ?_ | refine blk_alloc ?_ _)); exact BK326.out) hb); have n1_ := Aside0.mk (below_step (by repeat (first | (with_reducible first | exact HB.out | apply below_alloc | apply pw_below_drewN | apply below_drew1 | refine below_set ?_ GE326.out) | exact HB.out)) hb); have n2_ := Aside0.mk (hbox); have n3_ := Aside0.mk ((by rw [hg]; exact (below_size (by repeat (first | (with_reducible first | exact HB.out | apply below_alloc | apply pw_below_drewN | apply below_drew1 | refine below_set ?_ GE326.out) | exact HB.out))) : w.heap.size ≤ gb327)); have n4_ := Aside0.mk ((by rw [hg]; exact (below_size (by repeat (first | (with_reducible first | exact HB.out | apply below_alloc | apply pw_below_drewN | apply below_drew1 | refine below_set ?_ GE326.out) | exact HB.out))) : w.heap.size ≤ gb327)); have n5_ := Aside0.mk ((by rw [hg]; exact Nat.ne_of_lt (blk_lt (g := gb326) (o := .cells #[.int .i64 a0_0, .int .i64 a0_1, .int .i64 a0_2, .int .i64 a0_3, .string a0_4, .int .i64 a0_5, .int .i64 a0_6, .string a0_7] 30 (0, 0)) (by (with_reducible repeat (first | refine blk_drewN ?_ _ | refine blk_drew ?_ | refine blk_alloc ?_ _)); exact BK326.out)) : gb326 ≠ gb327)); have n6_ := Aside0.mk ((by rw [hg]; exact Nat.ne_of_gt (blk_lt (g := gb326) (o := .cells #[.int .i64 a0_0, .int .i64 a0_1, .int .i64 a0_2, .int .i64 a0_3, .string a0_4, .int .i64 a0_5, .int .i64 a0_6, .string a0_7] 30 (0, 0)) (by (with_reducible repeat (first | refine blk_drewN ?_ _ | refine blk_drew ?_ | refine blk_alloc ?_ _)); exact BK326.out)) : gb327 ≠ gb326)); clear BK326; clear HB; have BK326 := n0_; have HB := n1_; have BK327 := n2_; have GW327 := n3_; have GE327 := n4_; have NB326_327 := n5_; have NB327_326 := n6_; clear n0_ n1_ n2_ n3_ n4_ n5_ n6_; clear hb hbox hg))
  (try simp only [Act.put, List.setIfInBounds_toArray, List.set_cons_zero, List.set_cons_succ])
  go_cut [27] (fun v27 wc => ∃ (kq : Nat) (x27_3 : Bool), v27 = .bool x27_3 ∧ Aside0 (spec_MustHold.j0 kq a1 x27_3 a0_0 a0_1 a0_2 a0_3 a0_4 a0_5 a0_6 a0_7 a2_0 a2_1 a2_2 = some r) ∧ Aside0 (kq ≤ k) ∧ Aside0 (wc.heap[gb326]? = some (.cells #[.int .i64 a0_0, .int .i64 a0_1, .int .i64 a0_2, .int .i64 a0_3, .string a0_4, .int .i64 a0_5, .int .i64 a0_6, .string a0_7] 30 (0, 0))) ∧ Aside0 (wc.heap[gb327]? = some (.cells #[.int .i64 a2_0, .int .i64 a2_1, .string a2_2] 28 (0, 0))) ∧ Aside0 (Below w.heap.size w wc))
  case first =>
    have H := HC4.out
    clear HC4
    replace H := Option.bind_eq_some_iff.mp H
    obtain ⟨t328, A70, H⟩ := H
    replace H : (if t328 = true then (if a0_0 = 0 then (spec_MustHold.j0 k a1 true a0_0 a0_1 a0_2 a0_3 a0_4 a0_5 a0_6 a0_7 a2_0 a2_1 a2_2) else ((spec_ValueOk.f k a2_0 a2_1 a2_2).bind fun t329 => (if t329 = true then (spec_MustHold.j0 k a1 (a2_0 != a0_2) a0_0 a0_1 a0_2 a0_3 a0_4 a0_5 a0_6 a0_7 a2_0 a2_1 a2_2) else (spec_MustHold.j0 k a1 true a0_0 a0_1 a0_2 a0_3 a0_4 a0_5 a0_6 a0_7 a2_0 a2_1 a2_2)))) else (spec_MustHold.j0 k a1 true a0_0 a0_1 a0_2 a0_3 a0_4 a0_5 a0_6 a0_7 a2_0 a2_1 a2_2)) = some r := H
    have A7 := Aside0.mk A70
    clear A70
    by_cases c8 : t328 = true
    · subst c8
      have H1 : (if a0_0 = 0 then (spec_MustHold.j0 k a1 true a0_0 a0_1 a0_2 a0_3 a0_4 a0_5 a0_6 a0_7 a2_0 a2_1 a2_2) else ((spec_ValueOk.f k a2_0 a2_1 a2_2).bind fun t329 => (if t329 = true then (spec_MustHold.j0 k a1 (a2_0 != a0_2) a0_0 a0_1 a0_2 a0_3 a0_4 a0_5 a0_6 a0_7 a2_0 a2_1 a2_2) else (spec_MustHold.j0 k a1 true a0_0 a0_1 a0_2 a0_3 a0_4 a0_5 a0_6 a0_7 a2_0 a2_1 a2_2)))) = some r := by rw [if_pos rfl] at H; exact H
      clear H
      have H := H1
      clear H1
      by_cases c9 : a0_0 = 0
      · rw [if_pos c9] at H
        have c9b0 : (a0_0 == 0) = true := beq_iff_eq.mpr c9
        have c9b1 : (a0_0 != 0) = false := bne_eq_false_iff_eq.mpr c9
        clear c9
        (first | rw [c9b0] | (simp only [i64_w, i32_w]; rw [c9b0]) | skip)
        have H' := Aside0.mk H
        clear H
        have hnb10 := NB326_327.out
        have hnc10 := NB327_326.out
        have hcz11_0 : w6.cell? ⟨gb326, 0, none⟩ = some (.int .i64 a0_0) := (blk_cell BK326.out 0).trans rfl
        have hcz11_1 : w6.cell? ⟨gb326, 1, none⟩ = some (.int .i64 a0_1) := (blk_cell BK326.out 1).trans rfl
        have hcz11_2 : w6.cell? ⟨gb326, 2, none⟩ = some (.int .i64 a0_2) := (blk_cell BK326.out 2).trans rfl
        have hcz11_3 : w6.cell? ⟨gb326, 3, none⟩ = some (.int .i64 a0_3) := (blk_cell BK326.out 3).trans rfl
        have hcz11_4 : w6.cell? ⟨gb326, 4, none⟩ = some (.string a0_4) := (blk_cell BK326.out 4).trans rfl
        have hcz11_5 : w6.cell? ⟨gb326, 5, none⟩ = some (.int .i64 a0_5) := (blk_cell BK326.out 5).trans rfl
        have hcz11_6 : w6.cell? ⟨gb326, 6, none⟩ = some (.int .i64 a0_6) := (blk_cell BK326.out 6).trans rfl
        have hcz11_7 : w6.cell? ⟨gb326, 7, none⟩ = some (.string a0_7) := (blk_cell BK326.out 7).trans rfl
        have hfz11_0 := blk_frozen BK326.out 0
        have hfz11_1 := blk_frozen BK326.out 1
        have hfz11_2 := blk_frozen BK326.out 2
        have hfz11_3 := blk_frozen BK326.out 3
        have hfz11_4 := blk_frozen BK326.out 4
        have hfz11_5 := blk_frozen BK326.out 5
        have hfz11_6 := blk_frozen BK326.out 6
        have hfz11_7 := blk_frozen BK326.out 7
        go_wp2_with (first | ((with_reducible refine gate_callee (f := 16) rfl ?_); refine goesL_ (some 8) rfl rfl Try.func16 (by kernel_rfl) rfl #[.agg #[.int .i64 a0_0, .int .i64 a0_1, .int .i64 a0_2, .int .i64 a0_3, .string a0_4, .int .i64 a0_5, .int .i64 a0_6, .string a0_7]] rfl (by (try simp only [List.map_toArray, List.map_cons, List.map_nil]); first | done | rfl | (simp only [List.length_drop, List.length_take]; rfl)) ?_; (with_reducible refine (spec_KnownOk.calls k a0_0 a0_1 a0_2 a0_3 a0_4 a0_5 a0_6 a0_7 true _ A7.out).mono ?_); rintro e w12 ⟨rfl, hb⟩; refine ⟨_, rfl, ?_⟩; have n0_ := Aside0.mk (blk_below (g := gb326) (o := .cells #[.int .i64 a0_0, .int .i64 a0_1, .int .i64 a0_2, .int .i64 a0_3, .string a0_4, .int .i64 a0_5, .int .i64 a0_6, .string a0_7] 30 (0, 0)) (by (with_reducible repeat (first | refine blk_drewN ?_ _ | refine blk_drew ?_ | refine blk_alloc ?_ _)); exact BK326.out) hb); have n1_ := Aside0.mk (blk_below (g := gb327) (o := .cells #[.int .i64 a2_0, .int .i64 a2_1, .string a2_2] 28 (0, 0)) (by (with_reducible repeat (first | refine blk_drewN ?_ _ | refine blk_drew ?_ | refine blk_alloc ?_ _)); exact BK327.out) hb); have n2_ := Aside0.mk (below_step (by repeat (first | (with_reducible first | exact HB.out | apply below_alloc | apply pw_below_drewN | apply below_drew1 | refine below_set ?_ GE326.out | refine below_set ?_ GE327.out) | exact HB.out)) hb); clear BK326; clear BK327; clear HB; have BK326 := n0_; have BK327 := n1_; have HB := n2_; clear n0_ n1_ n2_; (try clear hb); (try clear hb2); (try clear hk); (try clear hi); have hcz13_0 : w12.cell? ⟨gb326, 0, none⟩ = some (.int .i64 a0_0) := (blk_cell BK326.out 0).trans rfl; have hcz13_1 : w12.cell? ⟨gb326, 1, none⟩ = some (.int .i64 a0_1) := (blk_cell BK326.out 1).trans rfl; have hcz13_2 : w12.cell? ⟨gb326, 2, none⟩ = some (.int .i64 a0_2) := (blk_cell BK326.out 2).trans rfl; have hcz13_3 : w12.cell? ⟨gb326, 3, none⟩ = some (.int .i64 a0_3) := (blk_cell BK326.out 3).trans rfl; have hcz13_4 : w12.cell? ⟨gb326, 4, none⟩ = some (.string a0_4) := (blk_cell BK326.out 4).trans rfl; have hcz13_5 : w12.cell? ⟨gb326, 5, none⟩ = some (.int .i64 a0_5) := (blk_cell BK326.out 5).trans rfl; have hcz13_6 : w12.cell? ⟨gb326, 6, none⟩ = some (.int .i64 a0_6) := (blk_cell BK326.out 6).trans rfl; have hcz13_7 : w12.cell? ⟨gb326, 7, none⟩ = some (.string a0_7) := (blk_cell BK326.out 7).trans rfl; have hfz13_0 := blk_frozen BK326.out 0; have hfz13_1 := blk_frozen BK326.out 1; have hfz13_2 := blk_frozen BK326.out 2; have hfz13_3 := blk_frozen BK326.out 3; have hfz13_4 := blk_frozen BK326.out 4; have hfz13_5 := blk_frozen BK326.out 5; have hfz13_6 := blk_frozen BK326.out 6; have hfz13_7 := blk_frozen BK326.out 7))
        go_meet
        case rel => exact ⟨_, (true), (by first | rfl | (simp; done) | (simp [*]; done)), H', ⟨by first | omega | exact Nat.le_refl _⟩, ⟨by (with_reducible repeat (first | refine blk_drewN ?_ _ | refine blk_drew ?_ | refine blk_alloc ?_ _)); exact BK326.out⟩, ⟨by (with_reducible repeat (first | refine blk_drewN ?_ _ | refine blk_drew ?_ | refine blk_alloc ?_ _)); exact BK327.out⟩, ⟨by repeat (first | (with_reducible first | exact HB.out | apply below_alloc | apply pw_below_drewN | apply below_drew1 | refine below_set ?_ GE326.out | refine below_set ?_ GE327.out) | exact HB.out)⟩⟩
      · rw [if_neg c9] at H
        have c9b0 : (a0_0 == 0) = false := beq_eq_false_iff_ne.mpr c9
        have c9b1 : (a0_0 != 0) = true := bne_iff_ne.mpr c9
        (first | rw [c9b0] | (simp only [i64_w, i32_w]; rw [c9b0]) | skip)
        replace H := Option.bind_eq_some_iff.mp H
        obtain ⟨t329, A140, H⟩ := H
        replace H : (if t329 = true then (spec_MustHold.j0 k a1 (a2_0 != a0_2) a0_0 a0_1 a0_2 a0_3 a0_4 a0_5 a0_6 a0_7 a2_0 a2_1 a2_2) else (spec_MustHold.j0 k a1 true a0_0 a0_1 a0_2 a0_3 a0_4 a0_5 a0_6 a0_7 a2_0 a2_1 a2_2)) = some r := H
        have A14 := Aside0.mk A140
        clear A140
        by_cases c15 : t329 = true
        · subst c15
          have H1 : (spec_MustHold.j0 k a1 (a2_0 != a0_2) a0_0 a0_1 a0_2 a0_3 a0_4 a0_5 a0_6 a0_7 a2_0 a2_1 a2_2) = some r := by rw [if_pos rfl] at H; exact H
          clear H
          have H := H1
          clear H1
          have H' := Aside0.mk H
          clear H
          have hnb16 := NB326_327.out
          have hnc16 := NB327_326.out
          have hcz17_0 : w6.cell? ⟨gb326, 0, none⟩ = some (.int .i64 a0_0) := (blk_cell BK326.out 0).trans rfl
          have hcz17_1 : w6.cell? ⟨gb326, 1, none⟩ = some (.int .i64 a0_1) := (blk_cell BK326.out 1).trans rfl
          have hcz17_2 : w6.cell? ⟨gb326, 2, none⟩ = some (.int .i64 a0_2) := (blk_cell BK326.out 2).trans rfl
          have hcz17_3 : w6.cell? ⟨gb326, 3, none⟩ = some (.int .i64 a0_3) := (blk_cell BK326.out 3).trans rfl
          have hcz17_4 : w6.cell? ⟨gb326, 4, none⟩ = some (.string a0_4) := (blk_cell BK326.out 4).trans rfl
          have hcz17_5 : w6.cell? ⟨gb326, 5, none⟩ = some (.int .i64 a0_5) := (blk_cell BK326.out 5).trans rfl
          have hcz17_6 : w6.cell? ⟨gb326, 6, none⟩ = some (.int .i64 a0_6) := (blk_cell BK326.out 6).trans rfl
          have hcz17_7 : w6.cell? ⟨gb326, 7, none⟩ = some (.string a0_7) := (blk_cell BK326.out 7).trans rfl
          have hfz17_0 := blk_frozen BK326.out 0
          have hfz17_1 := blk_frozen BK326.out 1
          have hfz17_2 := blk_frozen BK326.out 2
          have hfz17_3 := blk_frozen BK326.out 3
          have hfz17_4 := blk_frozen BK326.out 4
          have hfz17_5 := blk_frozen BK326.out 5
          have hfz17_6 := blk_frozen BK326.out 6
          have hfz17_7 := blk_frozen BK326.out 7
          go_wp2_with (first | ((with_reducible refine gate_callee (f := 16) rfl ?_); refine goesL_ (some 8) rfl rfl Try.func16 (by kernel_rfl) rfl #[.agg #[.int .i64 a0_0, .int .i64 a0_1, .int .i64 a0_2, .int .i64 a0_3, .string a0_4, .int .i64 a0_5, .int .i64 a0_6, .string a0_7]] rfl (by (try simp only [List.map_toArray, List.map_cons, List.map_nil]); first | done | rfl | (simp only [List.length_drop, List.length_take]; rfl)) ?_; (with_reducible refine (spec_KnownOk.calls k a0_0 a0_1 a0_2 a0_3 a0_4 a0_5 a0_6 a0_7 true _ A7.out).mono ?_); rintro e w18 ⟨rfl, hb⟩; refine ⟨_, rfl, ?_⟩; have n0_ := Aside0.mk (blk_below (g := gb326) (o := .cells #[.int .i64 a0_0, .int .i64 a0_1, .int .i64 a0_2, .int .i64 a0_3, .string a0_4, .int .i64 a0_5, .int .i64 a0_6, .string a0_7] 30 (0, 0)) (by (with_reducible repeat (first | refine blk_drewN ?_ _ | refine blk_drew ?_ | refine blk_alloc ?_ _)); exact BK326.out) hb); have n1_ := Aside0.mk (blk_below (g := gb327) (o := .cells #[.int .i64 a2_0, .int .i64 a2_1, .string a2_2] 28 (0, 0)) (by (with_reducible repeat (first | refine blk_drewN ?_ _ | refine blk_drew ?_ | refine blk_alloc ?_ _)); exact BK327.out) hb); have n2_ := Aside0.mk (below_step (by repeat (first | (with_reducible first | exact HB.out | apply below_alloc | apply pw_below_drewN | apply below_drew1 | refine below_set ?_ GE326.out | refine below_set ?_ GE327.out) | exact HB.out)) hb); clear BK326; clear BK327; clear HB; have BK326 := n0_; have BK327 := n1_; have HB := n2_; clear n0_ n1_ n2_; (try clear hb); (try clear hb2); (try clear hk); (try clear hi); have hcz19_0 : w18.cell? ⟨gb326, 0, none⟩ = some (.int .i64 a0_0) := (blk_cell BK326.out 0).trans rfl; have hcz19_1 : w18.cell? ⟨gb326, 1, none⟩ = some (.int .i64 a0_1) := (blk_cell BK326.out 1).trans rfl; have hcz19_2 : w18.cell? ⟨gb326, 2, none⟩ = some (.int .i64 a0_2) := (blk_cell BK326.out 2).trans rfl; have hcz19_3 : w18.cell? ⟨gb326, 3, none⟩ = some (.int .i64 a0_3) := (blk_cell BK326.out 3).trans rfl; have hcz19_4 : w18.cell? ⟨gb326, 4, none⟩ = some (.string a0_4) := (blk_cell BK326.out 4).trans rfl; have hcz19_5 : w18.cell? ⟨gb326, 5, none⟩ = some (.int .i64 a0_5) := (blk_cell BK326.out 5).trans rfl; have hcz19_6 : w18.cell? ⟨gb326, 6, none⟩ = some (.int .i64 a0_6) := (blk_cell BK326.out 6).trans rfl; have hcz19_7 : w18.cell? ⟨gb326, 7, none⟩ = some (.string a0_7) := (blk_cell BK326.out 7).trans rfl; have hfz19_0 := blk_frozen BK326.out 0; have hfz19_1 := blk_frozen BK326.out 1; have hfz19_2 := blk_frozen BK326.out 2; have hfz19_3 := blk_frozen BK326.out 3; have hfz19_4 := blk_frozen BK326.out 4; have hfz19_5 := blk_frozen BK326.out 5; have hfz19_6 := blk_frozen BK326.out 6; have hfz19_7 := blk_frozen BK326.out 7; have hcz20_0 : w18.cell? ⟨gb327, 0, none⟩ = some (.int .i64 a2_0) := (blk_cell BK327.out 0).trans rfl; have hcz20_1 : w18.cell? ⟨gb327, 1, none⟩ = some (.int .i64 a2_1) := (blk_cell BK327.out 1).trans rfl; have hcz20_2 : w18.cell? ⟨gb327, 2, none⟩ = some (.string a2_2) := (blk_cell BK327.out 2).trans rfl; have hfz20_0 := blk_frozen BK327.out 0; have hfz20_1 := blk_frozen BK327.out 1; have hfz20_2 := blk_frozen BK327.out 2) | (go_at_call 63; (with_reducible refine (spec_ValueOk.calls k a2_0 a2_1 a2_2 true _ A14.out).mono ?_); rintro e w21 ⟨rfl, hb⟩; have n0_ := Aside0.mk (blk_below (g := gb326) (o := .cells #[.int .i64 a0_0, .int .i64 a0_1, .int .i64 a0_2, .int .i64 a0_3, .string a0_4, .int .i64 a0_5, .int .i64 a0_6, .string a0_7] 30 (0, 0)) (by (with_reducible repeat (first | refine blk_drewN ?_ _ | refine blk_drew ?_ | refine blk_alloc ?_ _)); exact BK326.out) hb); have n1_ := Aside0.mk (blk_below (g := gb327) (o := .cells #[.int .i64 a2_0, .int .i64 a2_1, .string a2_2] 28 (0, 0)) (by (with_reducible repeat (first | refine blk_drewN ?_ _ | refine blk_drew ?_ | refine blk_alloc ?_ _)); exact BK327.out) hb); have n2_ := Aside0.mk (below_step (by repeat (first | (with_reducible first | exact HB.out | apply below_alloc | apply pw_below_drewN | apply below_drew1 | refine below_set ?_ GE326.out | refine below_set ?_ GE327.out) | exact HB.out)) hb); clear BK326; clear BK327; clear HB; have BK326 := n0_; have BK327 := n1_; have HB := n2_; clear n0_ n1_ n2_; (try clear hb); (try clear hb2); (try clear hk); (try clear hi); have hcz22_0 : w21.cell? ⟨gb327, 0, none⟩ = some (.int .i64 a2_0) := (blk_cell BK327.out 0).trans rfl; have hcz22_1 : w21.cell? ⟨gb327, 1, none⟩ = some (.int .i64 a2_1) := (blk_cell BK327.out 1).trans rfl; have hcz22_2 : w21.cell? ⟨gb327, 2, none⟩ = some (.string a2_2) := (blk_cell BK327.out 2).trans rfl; have hfz22_0 := blk_frozen BK327.out 0; have hfz22_1 := blk_frozen BK327.out 1; have hfz22_2 := blk_frozen BK327.out 2; have hcz23_0 : w21.cell? ⟨gb326, 0, none⟩ = some (.int .i64 a0_0) := (blk_cell BK326.out 0).trans rfl; have hcz23_1 : w21.cell? ⟨gb326, 1, none⟩ = some (.int .i64 a0_1) := (blk_cell BK326.out 1).trans rfl; have hcz23_2 : w21.cell? ⟨gb326, 2, none⟩ = some (.int .i64 a0_2) := (blk_cell BK326.out 2).trans rfl; have hcz23_3 : w21.cell? ⟨gb326, 3, none⟩ = some (.int .i64 a0_3) := (blk_cell BK326.out 3).trans rfl; have hcz23_4 : w21.cell? ⟨gb326, 4, none⟩ = some (.string a0_4) := (blk_cell BK326.out 4).trans rfl; have hcz23_5 : w21.cell? ⟨gb326, 5, none⟩ = some (.int .i64 a0_5) := (blk_cell BK326.out 5).trans rfl; have hcz23_6 : w21.cell? ⟨gb326, 6, none⟩ = some (.int .i64 a0_6) := (blk_cell BK326.out 6).trans rfl; have hcz23_7 : w21.cell? ⟨gb326, 7, none⟩ = some (.string a0_7) := (blk_cell BK326.out 7).trans rfl; have hfz23_0 := blk_frozen BK326.out 0; have hfz23_1 := blk_frozen BK326.out 1; have hfz23_2 := blk_frozen BK326.out 2; have hfz23_3 := blk_frozen BK326.out 3; have hfz23_4 := blk_frozen BK326.out 4; have hfz23_5 := blk_frozen BK326.out 5; have hfz23_6 := blk_frozen BK326.out 6; have hfz23_7 := blk_frozen BK326.out 7))
          go_meet
          case rel => exact ⟨_, ((a2_0 != a0_2)), (by first | rfl | (simp; done) | (simp [*]; done)), H', ⟨by first | omega | exact Nat.le_refl _⟩, ⟨by (with_reducible repeat (first | refine blk_drewN ?_ _ | refine blk_drew ?_ | refine blk_alloc ?_ _)); exact BK326.out⟩, ⟨by (with_reducible repeat (first | refine blk_drewN ?_ _ | refine blk_drew ?_ | refine blk_alloc ?_ _)); exact BK327.out⟩, ⟨by repeat (first | (with_reducible first | exact HB.out | apply below_alloc | apply pw_below_drewN | apply below_drew1 | refine below_set ?_ GE326.out | refine below_set ?_ GE327.out) | exact HB.out)⟩⟩
        · replace c15 := Bool.eq_false_iff.mpr c15
          subst c15
          have H1 : (spec_MustHold.j0 k a1 true a0_0 a0_1 a0_2 a0_3 a0_4 a0_5 a0_6 a0_7 a2_0 a2_1 a2_2) = some r := by rw [if_neg (show ¬ (false = true) by decide)] at H; exact H
          clear H
          have H := H1
          clear H1
          have H' := Aside0.mk H
          clear H
          have hnb24 := NB326_327.out
          have hnc24 := NB327_326.out
          have hcz25_0 : w6.cell? ⟨gb326, 0, none⟩ = some (.int .i64 a0_0) := (blk_cell BK326.out 0).trans rfl
          have hcz25_1 : w6.cell? ⟨gb326, 1, none⟩ = some (.int .i64 a0_1) := (blk_cell BK326.out 1).trans rfl
          have hcz25_2 : w6.cell? ⟨gb326, 2, none⟩ = some (.int .i64 a0_2) := (blk_cell BK326.out 2).trans rfl
          have hcz25_3 : w6.cell? ⟨gb326, 3, none⟩ = some (.int .i64 a0_3) := (blk_cell BK326.out 3).trans rfl
          have hcz25_4 : w6.cell? ⟨gb326, 4, none⟩ = some (.string a0_4) := (blk_cell BK326.out 4).trans rfl
          have hcz25_5 : w6.cell? ⟨gb326, 5, none⟩ = some (.int .i64 a0_5) := (blk_cell BK326.out 5).trans rfl
          have hcz25_6 : w6.cell? ⟨gb326, 6, none⟩ = some (.int .i64 a0_6) := (blk_cell BK326.out 6).trans rfl
          have hcz25_7 : w6.cell? ⟨gb326, 7, none⟩ = some (.string a0_7) := (blk_cell BK326.out 7).trans rfl
          have hfz25_0 := blk_frozen BK326.out 0
          have hfz25_1 := blk_frozen BK326.out 1
          have hfz25_2 := blk_frozen BK326.out 2
          have hfz25_3 := blk_frozen BK326.out 3
          have hfz25_4 := blk_frozen BK326.out 4
          have hfz25_5 := blk_frozen BK326.out 5
          have hfz25_6 := blk_frozen BK326.out 6
          have hfz25_7 := blk_frozen BK326.out 7
          go_wp2_with (first | ((with_reducible refine gate_callee (f := 16) rfl ?_); refine goesL_ (some 8) rfl rfl Try.func16 (by kernel_rfl) rfl #[.agg #[.int .i64 a0_0, .int .i64 a0_1, .int .i64 a0_2, .int .i64 a0_3, .string a0_4, .int .i64 a0_5, .int .i64 a0_6, .string a0_7]] rfl (by (try simp only [List.map_toArray, List.map_cons, List.map_nil]); first | done | rfl | (simp only [List.length_drop, List.length_take]; rfl)) ?_; (with_reducible refine (spec_KnownOk.calls k a0_0 a0_1 a0_2 a0_3 a0_4 a0_5 a0_6 a0_7 true _ A7.out).mono ?_); rintro e w26 ⟨rfl, hb⟩; refine ⟨_, rfl, ?_⟩; have n0_ := Aside0.mk (blk_below (g := gb326) (o := .cells #[.int .i64 a0_0, .int .i64 a0_1, .int .i64 a0_2, .int .i64 a0_3, .string a0_4, .int .i64 a0_5, .int .i64 a0_6, .string a0_7] 30 (0, 0)) (by (with_reducible repeat (first | refine blk_drewN ?_ _ | refine blk_drew ?_ | refine blk_alloc ?_ _)); exact BK326.out) hb); have n1_ := Aside0.mk (blk_below (g := gb327) (o := .cells #[.int .i64 a2_0, .int .i64 a2_1, .string a2_2] 28 (0, 0)) (by (with_reducible repeat (first | refine blk_drewN ?_ _ | refine blk_drew ?_ | refine blk_alloc ?_ _)); exact BK327.out) hb); have n2_ := Aside0.mk (below_step (by repeat (first | (with_reducible first | exact HB.out | apply below_alloc | apply pw_below_drewN | apply below_drew1 | refine below_set ?_ GE326.out | refine below_set ?_ GE327.out) | exact HB.out)) hb); clear BK326; clear BK327; clear HB; have BK326 := n0_; have BK327 := n1_; have HB := n2_; clear n0_ n1_ n2_; (try clear hb); (try clear hb2); (try clear hk); (try clear hi); have hcz27_0 : w26.cell? ⟨gb326, 0, none⟩ = some (.int .i64 a0_0) := (blk_cell BK326.out 0).trans rfl; have hcz27_1 : w26.cell? ⟨gb326, 1, none⟩ = some (.int .i64 a0_1) := (blk_cell BK326.out 1).trans rfl; have hcz27_2 : w26.cell? ⟨gb326, 2, none⟩ = some (.int .i64 a0_2) := (blk_cell BK326.out 2).trans rfl; have hcz27_3 : w26.cell? ⟨gb326, 3, none⟩ = some (.int .i64 a0_3) := (blk_cell BK326.out 3).trans rfl; have hcz27_4 : w26.cell? ⟨gb326, 4, none⟩ = some (.string a0_4) := (blk_cell BK326.out 4).trans rfl; have hcz27_5 : w26.cell? ⟨gb326, 5, none⟩ = some (.int .i64 a0_5) := (blk_cell BK326.out 5).trans rfl; have hcz27_6 : w26.cell? ⟨gb326, 6, none⟩ = some (.int .i64 a0_6) := (blk_cell BK326.out 6).trans rfl; have hcz27_7 : w26.cell? ⟨gb326, 7, none⟩ = some (.string a0_7) := (blk_cell BK326.out 7).trans rfl; have hfz27_0 := blk_frozen BK326.out 0; have hfz27_1 := blk_frozen BK326.out 1; have hfz27_2 := blk_frozen BK326.out 2; have hfz27_3 := blk_frozen BK326.out 3; have hfz27_4 := blk_frozen BK326.out 4; have hfz27_5 := blk_frozen BK326.out 5; have hfz27_6 := blk_frozen BK326.out 6; have hfz27_7 := blk_frozen BK326.out 7; have hcz28_0 : w26.cell? ⟨gb327, 0, none⟩ = some (.int .i64 a2_0) := (blk_cell BK327.out 0).trans rfl; have hcz28_1 : w26.cell? ⟨gb327, 1, none⟩ = some (.int .i64 a2_1) := (blk_cell BK327.out 1).trans rfl; have hcz28_2 : w26.cell? ⟨gb327, 2, none⟩ = some (.string a2_2) := (blk_cell BK327.out 2).trans rfl; have hfz28_0 := blk_frozen BK327.out 0; have hfz28_1 := blk_frozen BK327.out 1; have hfz28_2 := blk_frozen BK327.out 2) | (go_at_call 63; (with_reducible refine (spec_ValueOk.calls k a2_0 a2_1 a2_2 false _ A14.out).mono ?_); rintro e w29 ⟨rfl, hb⟩; have n0_ := Aside0.mk (blk_below (g := gb326) (o := .cells #[.int .i64 a0_0, .int .i64 a0_1, .int .i64 a0_2, .int .i64 a0_3, .string a0_4, .int .i64 a0_5, .int .i64 a0_6, .string a0_7] 30 (0, 0)) (by (with_reducible repeat (first | refine blk_drewN ?_ _ | refine blk_drew ?_ | refine blk_alloc ?_ _)); exact BK326.out) hb); have n1_ := Aside0.mk (blk_below (g := gb327) (o := .cells #[.int .i64 a2_0, .int .i64 a2_1, .string a2_2] 28 (0, 0)) (by (with_reducible repeat (first | refine blk_drewN ?_ _ | refine blk_drew ?_ | refine blk_alloc ?_ _)); exact BK327.out) hb); have n2_ := Aside0.mk (below_step (by repeat (first | (with_reducible first | exact HB.out | apply below_alloc | apply pw_below_drewN | apply below_drew1 | refine below_set ?_ GE326.out | refine below_set ?_ GE327.out) | exact HB.out)) hb); clear BK326; clear BK327; clear HB; have BK326 := n0_; have BK327 := n1_; have HB := n2_; clear n0_ n1_ n2_; (try clear hb); (try clear hb2); (try clear hk); (try clear hi)))
          go_meet
          case rel => exact ⟨_, (true), (by first | rfl | (simp; done) | (simp [*]; done)), H', ⟨by first | omega | exact Nat.le_refl _⟩, ⟨by (with_reducible repeat (first | refine blk_drewN ?_ _ | refine blk_drew ?_ | refine blk_alloc ?_ _)); exact BK326.out⟩, ⟨by (with_reducible repeat (first | refine blk_drewN ?_ _ | refine blk_drew ?_ | refine blk_alloc ?_ _)); exact BK327.out⟩, ⟨by repeat (first | (with_reducible first | exact HB.out | apply below_alloc | apply pw_below_drewN | apply below_drew1 | refine below_set ?_ GE326.out | refine below_set ?_ GE327.out) | exact HB.out)⟩⟩
    · replace c8 := Bool.eq_false_iff.mpr c8
      subst c8
      have H1 : (spec_MustHold.j0 k a1 true a0_0 a0_1 a0_2 a0_3 a0_4 a0_5 a0_6 a0_7 a2_0 a2_1 a2_2) = some r := by rw [if_neg (show ¬ (false = true) by decide)] at H; exact H
      clear H
      have H := H1
      clear H1
      have H' := Aside0.mk H
      clear H
      have hnb30 := NB326_327.out
      have hnc30 := NB327_326.out
      have hcz31_0 : w6.cell? ⟨gb326, 0, none⟩ = some (.int .i64 a0_0) := (blk_cell BK326.out 0).trans rfl
      have hcz31_1 : w6.cell? ⟨gb326, 1, none⟩ = some (.int .i64 a0_1) := (blk_cell BK326.out 1).trans rfl
      have hcz31_2 : w6.cell? ⟨gb326, 2, none⟩ = some (.int .i64 a0_2) := (blk_cell BK326.out 2).trans rfl
      have hcz31_3 : w6.cell? ⟨gb326, 3, none⟩ = some (.int .i64 a0_3) := (blk_cell BK326.out 3).trans rfl
      have hcz31_4 : w6.cell? ⟨gb326, 4, none⟩ = some (.string a0_4) := (blk_cell BK326.out 4).trans rfl
      have hcz31_5 : w6.cell? ⟨gb326, 5, none⟩ = some (.int .i64 a0_5) := (blk_cell BK326.out 5).trans rfl
      have hcz31_6 : w6.cell? ⟨gb326, 6, none⟩ = some (.int .i64 a0_6) := (blk_cell BK326.out 6).trans rfl
      have hcz31_7 : w6.cell? ⟨gb326, 7, none⟩ = some (.string a0_7) := (blk_cell BK326.out 7).trans rfl
      have hfz31_0 := blk_frozen BK326.out 0
      have hfz31_1 := blk_frozen BK326.out 1
      have hfz31_2 := blk_frozen BK326.out 2
      have hfz31_3 := blk_frozen BK326.out 3
      have hfz31_4 := blk_frozen BK326.out 4
      have hfz31_5 := blk_frozen BK326.out 5
      have hfz31_6 := blk_frozen BK326.out 6
      have hfz31_7 := blk_frozen BK326.out 7
      go_wp2_with (first | ((with_reducible refine gate_callee (f := 16) rfl ?_); refine goesL_ (some 8) rfl rfl Try.func16 (by kernel_rfl) rfl #[.agg #[.int .i64 a0_0, .int .i64 a0_1, .int .i64 a0_2, .int .i64 a0_3, .string a0_4, .int .i64 a0_5, .int .i64 a0_6, .string a0_7]] rfl (by (try simp only [List.map_toArray, List.map_cons, List.map_nil]); first | done | rfl | (simp only [List.length_drop, List.length_take]; rfl)) ?_; (with_reducible refine (spec_KnownOk.calls k a0_0 a0_1 a0_2 a0_3 a0_4 a0_5 a0_6 a0_7 false _ A7.out).mono ?_); rintro e w32 ⟨rfl, hb⟩; refine ⟨_, rfl, ?_⟩; have n0_ := Aside0.mk (blk_below (g := gb326) (o := .cells #[.int .i64 a0_0, .int .i64 a0_1, .int .i64 a0_2, .int .i64 a0_3, .string a0_4, .int .i64 a0_5, .int .i64 a0_6, .string a0_7] 30 (0, 0)) (by (with_reducible repeat (first | refine blk_drewN ?_ _ | refine blk_drew ?_ | refine blk_alloc ?_ _)); exact BK326.out) hb); have n1_ := Aside0.mk (blk_below (g := gb327) (o := .cells #[.int .i64 a2_0, .int .i64 a2_1, .string a2_2] 28 (0, 0)) (by (with_reducible repeat (first | refine blk_drewN ?_ _ | refine blk_drew ?_ | refine blk_alloc ?_ _)); exact BK327.out) hb); have n2_ := Aside0.mk (below_step (by repeat (first | (with_reducible first | exact HB.out | apply below_alloc | apply pw_below_drewN | apply below_drew1 | refine below_set ?_ GE326.out | refine below_set ?_ GE327.out) | exact HB.out)) hb); clear BK326; clear BK327; clear HB; have BK326 := n0_; have BK327 := n1_; have HB := n2_; clear n0_ n1_ n2_; (try clear hb); (try clear hb2); (try clear hk); (try clear hi)))
      go_meet
      case rel => exact ⟨_, (true), (by first | rfl | (simp; done) | (simp [*]; done)), H', ⟨by first | omega | exact Nat.le_refl _⟩, ⟨by (with_reducible repeat (first | refine blk_drewN ?_ _ | refine blk_drew ?_ | refine blk_alloc ?_ _)); exact BK326.out⟩, ⟨by (with_reducible repeat (first | refine blk_drewN ?_ _ | refine blk_drew ?_ | refine blk_alloc ?_ _)); exact BK327.out⟩, ⟨by repeat (first | (with_reducible first | exact HB.out | apply below_alloc | apply pw_below_drewN | apply below_drew1 | refine below_set ?_ GE326.out | refine below_set ?_ GE327.out) | exact HB.out)⟩⟩
  case rest =>
    clear HC4
    try clear c1
    try clear c2
    try clear p2
    try clear c3
    try clear c8
    try clear c9
    try clear c9b0
    try clear c9b1
    try clear c10
    try clear c15
    try clear c16
    try clear c24
    try clear c29
    try clear c30
    try clear hcz11_0
    try clear hcz11_1
    try clear hcz11_2
    try clear hcz11_3
    try clear hcz11_4
    try clear hcz11_5
    try clear hcz11_6
    try clear hcz11_7
    try clear hcz13_0
    try clear hcz13_1
    try clear hcz13_2
    try clear hcz13_3
    try clear hcz13_4
    try clear hcz13_5
    try clear hcz13_6
    try clear hcz13_7
    try clear hcz17_0
    try clear hcz17_1
    try clear hcz17_2
    try clear hcz17_3
    try clear hcz17_4
    try clear hcz17_5
    try clear hcz17_6
    try clear hcz17_7
    try clear hcz19_0
    try clear hcz19_1
    try clear hcz19_2
    try clear hcz19_3
    try clear hcz19_4
    try clear hcz19_5
    try clear hcz19_6
    try clear hcz19_7
    try clear hcz20_0
    try clear hcz20_1
    try clear hcz20_2
    try clear hcz22_0
    try clear hcz22_1
    try clear hcz22_2
    try clear hcz23_0
    try clear hcz23_1
    try clear hcz23_2
    try clear hcz23_3
    try clear hcz23_4
    try clear hcz23_5
    try clear hcz23_6
    try clear hcz23_7
    try clear hcz25_0
    try clear hcz25_1
    try clear hcz25_2
    try clear hcz25_3
    try clear hcz25_4
    try clear hcz25_5
    try clear hcz25_6
    try clear hcz25_7
    try clear hcz27_0
    try clear hcz27_1
    try clear hcz27_2
    try clear hcz27_3
    try clear hcz27_4
    try clear hcz27_5
    try clear hcz27_6
    try clear hcz27_7
    try clear hcz28_0
    try clear hcz28_1
    try clear hcz28_2
    try clear hcz31_0
    try clear hcz31_1
    try clear hcz31_2
    try clear hcz31_3
    try clear hcz31_4
    try clear hcz31_5
    try clear hcz31_6
    try clear hcz31_7
    try clear hfz11_0
    try clear hfz11_1
    try clear hfz11_2
    try clear hfz11_3
    try clear hfz11_4
    try clear hfz11_5
    try clear hfz11_6
    try clear hfz11_7
    try clear hfz13_0
    try clear hfz13_1
    try clear hfz13_2
    try clear hfz13_3
    try clear hfz13_4
    try clear hfz13_5
    try clear hfz13_6
    try clear hfz13_7
    try clear hfz17_0
    try clear hfz17_1
    try clear hfz17_2
    try clear hfz17_3
    try clear hfz17_4
    try clear hfz17_5
    try clear hfz17_6
    try clear hfz17_7
    try clear hfz19_0
    try clear hfz19_1
    try clear hfz19_2
    try clear hfz19_3
    try clear hfz19_4
    try clear hfz19_5
    try clear hfz19_6
    try clear hfz19_7
    try clear hfz20_0
    try clear hfz20_1
    try clear hfz20_2
    try clear hfz22_0
    try clear hfz22_1
    try clear hfz22_2
    try clear hfz23_0
    try clear hfz23_1
    try clear hfz23_2
    try clear hfz23_3
    try clear hfz23_4
    try clear hfz23_5
    try clear hfz23_6
    try clear hfz23_7
    try clear hfz25_0
    try clear hfz25_1
    try clear hfz25_2
    try clear hfz25_3
    try clear hfz25_4
    try clear hfz25_5
    try clear hfz25_6
    try clear hfz25_7
    try clear hfz27_0
    try clear hfz27_1
    try clear hfz27_2
    try clear hfz27_3
    try clear hfz27_4
    try clear hfz27_5
    try clear hfz27_6
    try clear hfz27_7
    try clear hfz28_0
    try clear hfz28_1
    try clear hfz28_2
    try clear hfz31_0
    try clear hfz31_1
    try clear hfz31_2
    try clear hfz31_3
    try clear hfz31_4
    try clear hfz31_5
    try clear hfz31_6
    try clear hfz31_7
    obtain ⟨kq, x27_3, rfl, HA, HJ3, BK326, BK327, HB⟩ := hcut
    cases kq with
    | zero => exact absurd HA.out (by simp [spec_MustHold.j0])
    | succ kj3 =>
      have H := HA.out
      clear HA
      simp only [spec_MustHold.j0] at H
      by_cases c33 : x27_3 = true
      · subst c33
        have H1 : (some false) = some r := by rw [if_pos rfl] at H; exact H
        clear H
        have H := H1
        clear H1
        obtain rfl := Option.some.inj H
        go_wp2
        go_ret
        exact ⟨by first | rfl | (simp [errW_none, errW_some] <;> rfl) | (simp [*, errW_none, errW_some] <;> rfl), by repeat (first | (with_reducible first | exact HB.out | apply below_alloc | apply pw_below_drewN | apply below_drew1 | refine below_set ?_ GE326.out | refine below_set ?_ GE327.out) | exact HB.out)⟩
      · replace c33 := Bool.eq_false_iff.mpr c33
        subst c33
        have H1 : (if a1 = 1 then (if (a0_2 == a2_0 && (a0_3 == a2_1 && (a0_4.toList == a2_2.toList))) = true then (some (a0_5 == a2_0 && (a0_6 == a2_1 && (a0_7.toList == a2_2.toList)))) else (some false)) else (if a1 = 2 then ((spec_ValueOrder.f kj3 a2_0 a2_1 a2_2 a0_2 a0_3 a0_4).bind fun t330 => (if t330 < 0 then (some true) else ((spec_ValueOrder.f kj3 a0_5 a0_6 a0_7 a2_0 a2_1 a2_2).bind fun t331 => (some (decide (t331 < 0)))))) else (if a1 = 3 then ((spec_ValueOrder.f kj3 a0_5 a0_6 a0_7 a2_0 a2_1 a2_2).bind fun t332 => (some (decide (t332 < 0)))) else (if a1 = 4 then ((spec_ValueOrder.f kj3 a0_5 a0_6 a0_7 a2_0 a2_1 a2_2).bind fun t333 => (some (decide (t333 ≤ 0)))) else (some false))))) = some r := by rw [if_neg (show ¬ (false = true) by decide)] at H; exact H
        clear H
        have H := H1
        clear H1
        by_cases c34 : a1 = 1
        · rw [if_pos c34] at H
          have c34b0 : (a1 == 1) = true := beq_iff_eq.mpr c34
          have c34b1 : (a1 != 1) = false := bne_eq_false_iff_eq.mpr c34
          clear c34
          by_cases c35 : (a0_2 == a2_0 && (a0_3 == a2_1 && (a0_4.toList == a2_2.toList))) = true
          · rw [if_pos c35] at H
            have c35b0 : (a0_2 == a2_0 && (a0_3 == a2_1 && (a0_4.toList == a2_2.toList))) = true := c35
            (try (have c35b1 : decide (a0_2 = a2_0 && (a0_3 == a2_1 && (a0_4.toList == a2_2.toList))) = true := by simpa using c35))
            (try (have c35b2 : (a0_2 == a2_0 && (a0_3 == a2_1 && (a0_4.toList == a2_2.toList))) = true := by simpa using c35))
            clear c35
            obtain rfl := Option.some.inj H
            have hnb36 := NB326_327.out
            have hnc36 := NB327_326.out
            have hcz37_0 : wc.cell? ⟨gb326, 0, none⟩ = some (.int .i64 a0_0) := (blk_cell BK326.out 0).trans rfl
            have hcz37_1 : wc.cell? ⟨gb326, 1, none⟩ = some (.int .i64 a0_1) := (blk_cell BK326.out 1).trans rfl
            have hcz37_2 : wc.cell? ⟨gb326, 2, none⟩ = some (.int .i64 a0_2) := (blk_cell BK326.out 2).trans rfl
            have hcz37_3 : wc.cell? ⟨gb326, 3, none⟩ = some (.int .i64 a0_3) := (blk_cell BK326.out 3).trans rfl
            have hcz37_4 : wc.cell? ⟨gb326, 4, none⟩ = some (.string a0_4) := (blk_cell BK326.out 4).trans rfl
            have hcz37_5 : wc.cell? ⟨gb326, 5, none⟩ = some (.int .i64 a0_5) := (blk_cell BK326.out 5).trans rfl
            have hcz37_6 : wc.cell? ⟨gb326, 6, none⟩ = some (.int .i64 a0_6) := (blk_cell BK326.out 6).trans rfl
            have hcz37_7 : wc.cell? ⟨gb326, 7, none⟩ = some (.string a0_7) := (blk_cell BK326.out 7).trans rfl
            have hfz37_0 := blk_frozen BK326.out 0
            have hfz37_1 := blk_frozen BK326.out 1
            have hfz37_2 := blk_frozen BK326.out 2
            have hfz37_3 := blk_frozen BK326.out 3
            have hfz37_4 := blk_frozen BK326.out 4
            have hfz37_5 := blk_frozen BK326.out 5
            have hfz37_6 := blk_frozen BK326.out 6
            have hfz37_7 := blk_frozen BK326.out 7
            have hcz38_0 : wc.cell? ⟨gb327, 0, none⟩ = some (.int .i64 a2_0) := (blk_cell BK327.out 0).trans rfl
            have hcz38_1 : wc.cell? ⟨gb327, 1, none⟩ = some (.int .i64 a2_1) := (blk_cell BK327.out 1).trans rfl
            have hcz38_2 : wc.cell? ⟨gb327, 2, none⟩ = some (.string a2_2) := (blk_cell BK327.out 2).trans rfl
            have hfz38_0 := blk_frozen BK327.out 0
            have hfz38_1 := blk_frozen BK327.out 1
            have hfz38_2 := blk_frozen BK327.out 2
            go_wp2
            go_ret
            exact ⟨by first | rfl | (simp [errW_none, errW_some] <;> rfl) | (simp [*, errW_none, errW_some] <;> rfl), by repeat (first | (with_reducible first | exact HB.out | apply below_alloc | apply pw_below_drewN | apply below_drew1 | refine below_set ?_ GE326.out | refine below_set ?_ GE327.out) | exact HB.out)⟩
          · rw [if_neg c35] at H
            have c35b0 : (a0_2 == a2_0 && (a0_3 == a2_1 && (a0_4.toList == a2_2.toList))) = false := by simpa using c35
            (try (have c35b1 : decide (a0_2 = a2_0 && (a0_3 == a2_1 && (a0_4.toList == a2_2.toList))) = false := by simpa using c35))
            (try (have c35b2 : (a0_2 == a2_0 && (a0_3 == a2_1 && (a0_4.toList == a2_2.toList))) = false := by simpa using c35))
            (try (have c35b3 : ¬ (a0_2 = a2_0 && (a0_3 == a2_1 && (a0_4.toList == a2_2.toList))) := by simpa using c35))
            clear c35
            obtain rfl := Option.some.inj H
            have hnb39 := NB326_327.out
            have hnc39 := NB327_326.out
            have hcz40_0 : wc.cell? ⟨gb326, 0, none⟩ = some (.int .i64 a0_0) := (blk_cell BK326.out 0).trans rfl
            have hcz40_1 : wc.cell? ⟨gb326, 1, none⟩ = some (.int .i64 a0_1) := (blk_cell BK326.out 1).trans rfl
            have hcz40_2 : wc.cell? ⟨gb326, 2, none⟩ = some (.int .i64 a0_2) := (blk_cell BK326.out 2).trans rfl
            have hcz40_3 : wc.cell? ⟨gb326, 3, none⟩ = some (.int .i64 a0_3) := (blk_cell BK326.out 3).trans rfl
            have hcz40_4 : wc.cell? ⟨gb326, 4, none⟩ = some (.string a0_4) := (blk_cell BK326.out 4).trans rfl
            have hcz40_5 : wc.cell? ⟨gb326, 5, none⟩ = some (.int .i64 a0_5) := (blk_cell BK326.out 5).trans rfl
            have hcz40_6 : wc.cell? ⟨gb326, 6, none⟩ = some (.int .i64 a0_6) := (blk_cell BK326.out 6).trans rfl
            have hcz40_7 : wc.cell? ⟨gb326, 7, none⟩ = some (.string a0_7) := (blk_cell BK326.out 7).trans rfl
            have hfz40_0 := blk_frozen BK326.out 0
            have hfz40_1 := blk_frozen BK326.out 1
            have hfz40_2 := blk_frozen BK326.out 2
            have hfz40_3 := blk_frozen BK326.out 3
            have hfz40_4 := blk_frozen BK326.out 4
            have hfz40_5 := blk_frozen BK326.out 5
            have hfz40_6 := blk_frozen BK326.out 6
            have hfz40_7 := blk_frozen BK326.out 7
            have hcz41_0 : wc.cell? ⟨gb327, 0, none⟩ = some (.int .i64 a2_0) := (blk_cell BK327.out 0).trans rfl
            have hcz41_1 : wc.cell? ⟨gb327, 1, none⟩ = some (.int .i64 a2_1) := (blk_cell BK327.out 1).trans rfl
            have hcz41_2 : wc.cell? ⟨gb327, 2, none⟩ = some (.string a2_2) := (blk_cell BK327.out 2).trans rfl
            have hfz41_0 := blk_frozen BK327.out 0
            have hfz41_1 := blk_frozen BK327.out 1
            have hfz41_2 := blk_frozen BK327.out 2
            go_wp2
            go_ret
            exact ⟨by first | rfl | (simp [errW_none, errW_some] <;> rfl) | (simp [*, errW_none, errW_some] <;> rfl), by repeat (first | (with_reducible first | exact HB.out | apply below_alloc | apply pw_below_drewN | apply below_drew1 | refine below_set ?_ GE326.out | refine below_set ?_ GE327.out) | exact HB.out)⟩
        · rw [if_neg c34] at H
          have c34b0 : (a1 == 1) = false := beq_eq_false_iff_ne.mpr c34
          have c34b1 : (a1 != 1) = true := bne_iff_ne.mpr c34
          by_cases c42 : a1 = 2
          · rw [if_pos c42] at H
            have c42b0 : (a1 == 2) = true := beq_iff_eq.mpr c42
            have c42b1 : (a1 != 2) = false := bne_eq_false_iff_eq.mpr c42
            clear c42
            replace H := Option.bind_eq_some_iff.mp H
            obtain ⟨t330, A430, H⟩ := H
            replace H : (if t330 < 0 then (some true) else ((spec_ValueOrder.f kj3 a0_5 a0_6 a0_7 a2_0 a2_1 a2_2).bind fun t331 => (some (decide (t331 < 0))))) = some r := H
            have A43 := Aside0.mk A430
            clear A430
            by_cases c44 : t330 < 0
            · rw [if_pos c44] at H
              have c44b0 : decide (t330 < 0) = true := decide_eq_true c44
              clear c44
              obtain rfl := Option.some.inj H
              have hnb45 := NB327_326.out
              have hnc45 := NB326_327.out
              have hcz46_0 : wc.cell? ⟨gb327, 0, none⟩ = some (.int .i64 a2_0) := (blk_cell BK327.out 0).trans rfl
              have hcz46_1 : wc.cell? ⟨gb327, 1, none⟩ = some (.int .i64 a2_1) := (blk_cell BK327.out 1).trans rfl
              have hcz46_2 : wc.cell? ⟨gb327, 2, none⟩ = some (.string a2_2) := (blk_cell BK327.out 2).trans rfl
              have hfz46_0 := blk_frozen BK327.out 0
              have hfz46_1 := blk_frozen BK327.out 1
              have hfz46_2 := blk_frozen BK327.out 2
              have hcz47_0 : wc.cell? ⟨gb326, 0, none⟩ = some (.int .i64 a0_0) := (blk_cell BK326.out 0).trans rfl
              have hcz47_1 : wc.cell? ⟨gb326, 1, none⟩ = some (.int .i64 a0_1) := (blk_cell BK326.out 1).trans rfl
              have hcz47_2 : wc.cell? ⟨gb326, 2, none⟩ = some (.int .i64 a0_2) := (blk_cell BK326.out 2).trans rfl
              have hcz47_3 : wc.cell? ⟨gb326, 3, none⟩ = some (.int .i64 a0_3) := (blk_cell BK326.out 3).trans rfl
              have hcz47_4 : wc.cell? ⟨gb326, 4, none⟩ = some (.string a0_4) := (blk_cell BK326.out 4).trans rfl
              have hcz47_5 : wc.cell? ⟨gb326, 5, none⟩ = some (.int .i64 a0_5) := (blk_cell BK326.out 5).trans rfl
              have hcz47_6 : wc.cell? ⟨gb326, 6, none⟩ = some (.int .i64 a0_6) := (blk_cell BK326.out 6).trans rfl
              have hcz47_7 : wc.cell? ⟨gb326, 7, none⟩ = some (.string a0_7) := (blk_cell BK326.out 7).trans rfl
              have hfz47_0 := blk_frozen BK326.out 0
              have hfz47_1 := blk_frozen BK326.out 1
              have hfz47_2 := blk_frozen BK326.out 2
              have hfz47_3 := blk_frozen BK326.out 3
              have hfz47_4 := blk_frozen BK326.out 4
              have hfz47_5 := blk_frozen BK326.out 5
              have hfz47_6 := blk_frozen BK326.out 6
              have hfz47_7 := blk_frozen BK326.out 7
              go_wp2_with (first | ((with_reducible refine gate_callee (f := 64) rfl ?_); refine goesL_ (some 46) rfl rfl Try.func64 (by kernel_rfl) rfl #[.agg #[.int .i64 a2_0, .int .i64 a2_1, .string a2_2], .agg #[.int .i64 a0_2, .int .i64 a0_3, .string a0_4]] rfl (by (try simp only [List.map_toArray, List.map_cons, List.map_nil]); first | done | rfl | (simp only [List.length_drop, List.length_take]; rfl)) ?_; (with_reducible refine (spec_ValueOrder.calls kj3 a2_0 a2_1 a2_2 a0_2 a0_3 a0_4 t330 _ A43.out).mono ?_); rintro e w48 ⟨rfl, hb⟩; refine ⟨_, rfl, ?_⟩; have n0_ := Aside0.mk (blk_below (g := gb326) (o := .cells #[.int .i64 a0_0, .int .i64 a0_1, .int .i64 a0_2, .int .i64 a0_3, .string a0_4, .int .i64 a0_5, .int .i64 a0_6, .string a0_7] 30 (0, 0)) (by (with_reducible repeat (first | refine blk_drewN ?_ _ | refine blk_drew ?_ | refine blk_alloc ?_ _)); exact BK326.out) hb); have n1_ := Aside0.mk (blk_below (g := gb327) (o := .cells #[.int .i64 a2_0, .int .i64 a2_1, .string a2_2] 28 (0, 0)) (by (with_reducible repeat (first | refine blk_drewN ?_ _ | refine blk_drew ?_ | refine blk_alloc ?_ _)); exact BK327.out) hb); have n2_ := Aside0.mk (below_step (by repeat (first | (with_reducible first | exact HB.out | apply below_alloc | apply pw_below_drewN | apply below_drew1 | refine below_set ?_ GE326.out | refine below_set ?_ GE327.out) | exact HB.out)) hb); clear BK326; clear BK327; clear HB; have BK326 := n0_; have BK327 := n1_; have HB := n2_; clear n0_ n1_ n2_; (try clear hb); (try clear hb2); (try clear hk); (try clear hi)))
              go_ret
              exact ⟨by first | rfl | (simp [errW_none, errW_some] <;> rfl) | (simp [*, errW_none, errW_some] <;> rfl), by repeat (first | (with_reducible first | exact HB.out | apply below_alloc | apply pw_below_drewN | apply below_drew1 | refine below_set ?_ GE326.out | refine below_set ?_ GE327.out) | exact HB.out)⟩
            · rw [if_neg c44] at H
              have c44b0 : decide (t330 < 0) = false := decide_eq_false c44
              clear c44
              replace H := Option.bind_eq_some_iff.mp H
              obtain ⟨t331, A490, H⟩ := H
              replace H : (some (decide (t331 < 0))) = some r := H
              have A49 := Aside0.mk A490
              clear A490
              obtain rfl := Option.some.inj H
              have hnb50 := NB327_326.out
              have hnc50 := NB326_327.out
              have hcz51_0 : wc.cell? ⟨gb327, 0, none⟩ = some (.int .i64 a2_0) := (blk_cell BK327.out 0).trans rfl
              have hcz51_1 : wc.cell? ⟨gb327, 1, none⟩ = some (.int .i64 a2_1) := (blk_cell BK327.out 1).trans rfl
              have hcz51_2 : wc.cell? ⟨gb327, 2, none⟩ = some (.string a2_2) := (blk_cell BK327.out 2).trans rfl
              have hfz51_0 := blk_frozen BK327.out 0
              have hfz51_1 := blk_frozen BK327.out 1
              have hfz51_2 := blk_frozen BK327.out 2
              have hcz52_0 : wc.cell? ⟨gb326, 0, none⟩ = some (.int .i64 a0_0) := (blk_cell BK326.out 0).trans rfl
              have hcz52_1 : wc.cell? ⟨gb326, 1, none⟩ = some (.int .i64 a0_1) := (blk_cell BK326.out 1).trans rfl
              have hcz52_2 : wc.cell? ⟨gb326, 2, none⟩ = some (.int .i64 a0_2) := (blk_cell BK326.out 2).trans rfl
              have hcz52_3 : wc.cell? ⟨gb326, 3, none⟩ = some (.int .i64 a0_3) := (blk_cell BK326.out 3).trans rfl
              have hcz52_4 : wc.cell? ⟨gb326, 4, none⟩ = some (.string a0_4) := (blk_cell BK326.out 4).trans rfl
              have hcz52_5 : wc.cell? ⟨gb326, 5, none⟩ = some (.int .i64 a0_5) := (blk_cell BK326.out 5).trans rfl
              have hcz52_6 : wc.cell? ⟨gb326, 6, none⟩ = some (.int .i64 a0_6) := (blk_cell BK326.out 6).trans rfl
              have hcz52_7 : wc.cell? ⟨gb326, 7, none⟩ = some (.string a0_7) := (blk_cell BK326.out 7).trans rfl
              have hfz52_0 := blk_frozen BK326.out 0
              have hfz52_1 := blk_frozen BK326.out 1
              have hfz52_2 := blk_frozen BK326.out 2
              have hfz52_3 := blk_frozen BK326.out 3
              have hfz52_4 := blk_frozen BK326.out 4
              have hfz52_5 := blk_frozen BK326.out 5
              have hfz52_6 := blk_frozen BK326.out 6
              have hfz52_7 := blk_frozen BK326.out 7
              go_wp2_with (first | ((with_reducible refine gate_callee (f := 64) rfl ?_); refine goesL_ (some 46) rfl rfl Try.func64 (by kernel_rfl) rfl #[.agg #[.int .i64 a2_0, .int .i64 a2_1, .string a2_2], .agg #[.int .i64 a0_2, .int .i64 a0_3, .string a0_4]] rfl (by (try simp only [List.map_toArray, List.map_cons, List.map_nil]); first | done | rfl | (simp only [List.length_drop, List.length_take]; rfl)) ?_; (with_reducible refine (spec_ValueOrder.calls kj3 a2_0 a2_1 a2_2 a0_2 a0_3 a0_4 t330 _ A43.out).mono ?_); rintro e w53 ⟨rfl, hb⟩; refine ⟨_, rfl, ?_⟩; have n0_ := Aside0.mk (blk_below (g := gb326) (o := .cells #[.int .i64 a0_0, .int .i64 a0_1, .int .i64 a0_2, .int .i64 a0_3, .string a0_4, .int .i64 a0_5, .int .i64 a0_6, .string a0_7] 30 (0, 0)) (by (with_reducible repeat (first | refine blk_drewN ?_ _ | refine blk_drew ?_ | refine blk_alloc ?_ _)); exact BK326.out) hb); have n1_ := Aside0.mk (blk_below (g := gb327) (o := .cells #[.int .i64 a2_0, .int .i64 a2_1, .string a2_2] 28 (0, 0)) (by (with_reducible repeat (first | refine blk_drewN ?_ _ | refine blk_drew ?_ | refine blk_alloc ?_ _)); exact BK327.out) hb); have n2_ := Aside0.mk (below_step (by repeat (first | (with_reducible first | exact HB.out | apply below_alloc | apply pw_below_drewN | apply below_drew1 | refine below_set ?_ GE326.out | refine below_set ?_ GE327.out) | exact HB.out)) hb); clear BK326; clear BK327; clear HB; have BK326 := n0_; have BK327 := n1_; have HB := n2_; clear n0_ n1_ n2_; (try clear hb); (try clear hb2); (try clear hk); (try clear hi); have hcz54_0 : w53.cell? ⟨gb326, 0, none⟩ = some (.int .i64 a0_0) := (blk_cell BK326.out 0).trans rfl; have hcz54_1 : w53.cell? ⟨gb326, 1, none⟩ = some (.int .i64 a0_1) := (blk_cell BK326.out 1).trans rfl; have hcz54_2 : w53.cell? ⟨gb326, 2, none⟩ = some (.int .i64 a0_2) := (blk_cell BK326.out 2).trans rfl; have hcz54_3 : w53.cell? ⟨gb326, 3, none⟩ = some (.int .i64 a0_3) := (blk_cell BK326.out 3).trans rfl; have hcz54_4 : w53.cell? ⟨gb326, 4, none⟩ = some (.string a0_4) := (blk_cell BK326.out 4).trans rfl; have hcz54_5 : w53.cell? ⟨gb326, 5, none⟩ = some (.int .i64 a0_5) := (blk_cell BK326.out 5).trans rfl; have hcz54_6 : w53.cell? ⟨gb326, 6, none⟩ = some (.int .i64 a0_6) := (blk_cell BK326.out 6).trans rfl; have hcz54_7 : w53.cell? ⟨gb326, 7, none⟩ = some (.string a0_7) := (blk_cell BK326.out 7).trans rfl; have hfz54_0 := blk_frozen BK326.out 0; have hfz54_1 := blk_frozen BK326.out 1; have hfz54_2 := blk_frozen BK326.out 2; have hfz54_3 := blk_frozen BK326.out 3; have hfz54_4 := blk_frozen BK326.out 4; have hfz54_5 := blk_frozen BK326.out 5; have hfz54_6 := blk_frozen BK326.out 6; have hfz54_7 := blk_frozen BK326.out 7; have hcz55_0 : w53.cell? ⟨gb327, 0, none⟩ = some (.int .i64 a2_0) := (blk_cell BK327.out 0).trans rfl; have hcz55_1 : w53.cell? ⟨gb327, 1, none⟩ = some (.int .i64 a2_1) := (blk_cell BK327.out 1).trans rfl; have hcz55_2 : w53.cell? ⟨gb327, 2, none⟩ = some (.string a2_2) := (blk_cell BK327.out 2).trans rfl; have hfz55_0 := blk_frozen BK327.out 0; have hfz55_1 := blk_frozen BK327.out 1; have hfz55_2 := blk_frozen BK327.out 2) | (go_at_call 64; (with_reducible refine (spec_ValueOrder.calls kj3 a0_5 a0_6 a0_7 a2_0 a2_1 a2_2 t331 _ A49.out).mono ?_); rintro e w56 ⟨rfl, hb⟩; have n0_ := Aside0.mk (blk_below (g := gb326) (o := .cells #[.int .i64 a0_0, .int .i64 a0_1, .int .i64 a0_2, .int .i64 a0_3, .string a0_4, .int .i64 a0_5, .int .i64 a0_6, .string a0_7] 30 (0, 0)) (by (with_reducible repeat (first | refine blk_drewN ?_ _ | refine blk_drew ?_ | refine blk_alloc ?_ _)); exact BK326.out) hb); have n1_ := Aside0.mk (blk_below (g := gb327) (o := .cells #[.int .i64 a2_0, .int .i64 a2_1, .string a2_2] 28 (0, 0)) (by (with_reducible repeat (first | refine blk_drewN ?_ _ | refine blk_drew ?_ | refine blk_alloc ?_ _)); exact BK327.out) hb); have n2_ := Aside0.mk (below_step (by repeat (first | (with_reducible first | exact HB.out | apply below_alloc | apply pw_below_drewN | apply below_drew1 | refine below_set ?_ GE326.out | refine below_set ?_ GE327.out) | exact HB.out)) hb); clear BK326; clear BK327; clear HB; have BK326 := n0_; have BK327 := n1_; have HB := n2_; clear n0_ n1_ n2_; (try clear hb); (try clear hb2); (try clear hk); (try clear hi)))
              go_ret
              exact ⟨by first | rfl | (simp [errW_none, errW_some] <;> rfl) | (simp [*, errW_none, errW_some] <;> rfl), by repeat (first | (with_reducible first | exact HB.out | apply below_alloc | apply pw_below_drewN | apply below_drew1 | refine below_set ?_ GE326.out | refine below_set ?_ GE327.out) | exact HB.out)⟩
          · rw [if_neg c42] at H
            have c42b0 : (a1 == 2) = false := beq_eq_false_iff_ne.mpr c42
            have c42b1 : (a1 != 2) = true := bne_iff_ne.mpr c42
            by_cases c57 : a1 = 3
            · rw [if_pos c57] at H
              have c57b0 : (a1 == 3) = true := beq_iff_eq.mpr c57
              have c57b1 : (a1 != 3) = false := bne_eq_false_iff_eq.mpr c57
              clear c57
              replace H := Option.bind_eq_some_iff.mp H
              obtain ⟨t332, A580, H⟩ := H
              replace H : (some (decide (t332 < 0))) = some r := H
              have A58 := Aside0.mk A580
              clear A580
              obtain rfl := Option.some.inj H
              have hnb59 := NB326_327.out
              have hnc59 := NB327_326.out
              have hcz60_0 : wc.cell? ⟨gb326, 0, none⟩ = some (.int .i64 a0_0) := (blk_cell BK326.out 0).trans rfl
              have hcz60_1 : wc.cell? ⟨gb326, 1, none⟩ = some (.int .i64 a0_1) := (blk_cell BK326.out 1).trans rfl
              have hcz60_2 : wc.cell? ⟨gb326, 2, none⟩ = some (.int .i64 a0_2) := (blk_cell BK326.out 2).trans rfl
              have hcz60_3 : wc.cell? ⟨gb326, 3, none⟩ = some (.int .i64 a0_3) := (blk_cell BK326.out 3).trans rfl
              have hcz60_4 : wc.cell? ⟨gb326, 4, none⟩ = some (.string a0_4) := (blk_cell BK326.out 4).trans rfl
              have hcz60_5 : wc.cell? ⟨gb326, 5, none⟩ = some (.int .i64 a0_5) := (blk_cell BK326.out 5).trans rfl
              have hcz60_6 : wc.cell? ⟨gb326, 6, none⟩ = some (.int .i64 a0_6) := (blk_cell BK326.out 6).trans rfl
              have hcz60_7 : wc.cell? ⟨gb326, 7, none⟩ = some (.string a0_7) := (blk_cell BK326.out 7).trans rfl
              have hfz60_0 := blk_frozen BK326.out 0
              have hfz60_1 := blk_frozen BK326.out 1
              have hfz60_2 := blk_frozen BK326.out 2
              have hfz60_3 := blk_frozen BK326.out 3
              have hfz60_4 := blk_frozen BK326.out 4
              have hfz60_5 := blk_frozen BK326.out 5
              have hfz60_6 := blk_frozen BK326.out 6
              have hfz60_7 := blk_frozen BK326.out 7
              have hcz61_0 : wc.cell? ⟨gb327, 0, none⟩ = some (.int .i64 a2_0) := (blk_cell BK327.out 0).trans rfl
              have hcz61_1 : wc.cell? ⟨gb327, 1, none⟩ = some (.int .i64 a2_1) := (blk_cell BK327.out 1).trans rfl
              have hcz61_2 : wc.cell? ⟨gb327, 2, none⟩ = some (.string a2_2) := (blk_cell BK327.out 2).trans rfl
              have hfz61_0 := blk_frozen BK327.out 0
              have hfz61_1 := blk_frozen BK327.out 1
              have hfz61_2 := blk_frozen BK327.out 2
              go_wp2_with (first | ((with_reducible refine gate_callee (f := 64) rfl ?_); refine goesL_ (some 60) rfl rfl Try.func64 (by kernel_rfl) rfl #[.agg #[.int .i64 a0_5, .int .i64 a0_6, .string a0_7], .agg #[.int .i64 a2_0, .int .i64 a2_1, .string a2_2]] rfl (by (try simp only [List.map_toArray, List.map_cons, List.map_nil]); first | done | rfl | (simp only [List.length_drop, List.length_take]; rfl)) ?_; (with_reducible refine (spec_ValueOrder.calls kj3 a0_5 a0_6 a0_7 a2_0 a2_1 a2_2 t332 _ A58.out).mono ?_); rintro e w62 ⟨rfl, hb⟩; refine ⟨_, rfl, ?_⟩; have n0_ := Aside0.mk (blk_below (g := gb326) (o := .cells #[.int .i64 a0_0, .int .i64 a0_1, .int .i64 a0_2, .int .i64 a0_3, .string a0_4, .int .i64 a0_5, .int .i64 a0_6, .string a0_7] 30 (0, 0)) (by (with_reducible repeat (first | refine blk_drewN ?_ _ | refine blk_drew ?_ | refine blk_alloc ?_ _)); exact BK326.out) hb); have n1_ := Aside0.mk (blk_below (g := gb327) (o := .cells #[.int .i64 a2_0, .int .i64 a2_1, .string a2_2] 28 (0, 0)) (by (with_reducible repeat (first | refine blk_drewN ?_ _ | refine blk_drew ?_ | refine blk_alloc ?_ _)); exact BK327.out) hb); have n2_ := Aside0.mk (below_step (by repeat (first | (with_reducible first | exact HB.out | apply below_alloc | apply pw_below_drewN | apply below_drew1 | refine below_set ?_ GE326.out | refine below_set ?_ GE327.out) | exact HB.out)) hb); clear BK326; clear BK327; clear HB; have BK326 := n0_; have BK327 := n1_; have HB := n2_; clear n0_ n1_ n2_; (try clear hb); (try clear hb2); (try clear hk); (try clear hi)))
              go_ret
              exact ⟨by first | rfl | (simp [errW_none, errW_some] <;> rfl) | (simp [*, errW_none, errW_some] <;> rfl), by repeat (first | (with_reducible first | exact HB.out | apply below_alloc | apply pw_below_drewN | apply below_drew1 | refine below_set ?_ GE326.out | refine below_set ?_ GE327.out) | exact HB.out)⟩
            · rw [if_neg c57] at H
              have c57b0 : (a1 == 3) = false := beq_eq_false_iff_ne.mpr c57
              have c57b1 : (a1 != 3) = true := bne_iff_ne.mpr c57
              by_cases c63 : a1 = 4
              · rw [if_pos c63] at H
                have c63b0 : (a1 == 4) = true := beq_iff_eq.mpr c63
                have c63b1 : (a1 != 4) = false := bne_eq_false_iff_eq.mpr c63
                clear c63
                replace H := Option.bind_eq_some_iff.mp H
                obtain ⟨t333, A640, H⟩ := H
                replace H : (some (decide (t333 ≤ 0))) = some r := H
                have A64 := Aside0.mk A640
                clear A640
                obtain rfl := Option.some.inj H
                have hnb65 := NB326_327.out
                have hnc65 := NB327_326.out
                have hcz66_0 : wc.cell? ⟨gb326, 0, none⟩ = some (.int .i64 a0_0) := (blk_cell BK326.out 0).trans rfl
                have hcz66_1 : wc.cell? ⟨gb326, 1, none⟩ = some (.int .i64 a0_1) := (blk_cell BK326.out 1).trans rfl
                have hcz66_2 : wc.cell? ⟨gb326, 2, none⟩ = some (.int .i64 a0_2) := (blk_cell BK326.out 2).trans rfl
                have hcz66_3 : wc.cell? ⟨gb326, 3, none⟩ = some (.int .i64 a0_3) := (blk_cell BK326.out 3).trans rfl
                have hcz66_4 : wc.cell? ⟨gb326, 4, none⟩ = some (.string a0_4) := (blk_cell BK326.out 4).trans rfl
                have hcz66_5 : wc.cell? ⟨gb326, 5, none⟩ = some (.int .i64 a0_5) := (blk_cell BK326.out 5).trans rfl
                have hcz66_6 : wc.cell? ⟨gb326, 6, none⟩ = some (.int .i64 a0_6) := (blk_cell BK326.out 6).trans rfl
                have hcz66_7 : wc.cell? ⟨gb326, 7, none⟩ = some (.string a0_7) := (blk_cell BK326.out 7).trans rfl
                have hfz66_0 := blk_frozen BK326.out 0
                have hfz66_1 := blk_frozen BK326.out 1
                have hfz66_2 := blk_frozen BK326.out 2
                have hfz66_3 := blk_frozen BK326.out 3
                have hfz66_4 := blk_frozen BK326.out 4
                have hfz66_5 := blk_frozen BK326.out 5
                have hfz66_6 := blk_frozen BK326.out 6
                have hfz66_7 := blk_frozen BK326.out 7
                have hcz67_0 : wc.cell? ⟨gb327, 0, none⟩ = some (.int .i64 a2_0) := (blk_cell BK327.out 0).trans rfl
                have hcz67_1 : wc.cell? ⟨gb327, 1, none⟩ = some (.int .i64 a2_1) := (blk_cell BK327.out 1).trans rfl
                have hcz67_2 : wc.cell? ⟨gb327, 2, none⟩ = some (.string a2_2) := (blk_cell BK327.out 2).trans rfl
                have hfz67_0 := blk_frozen BK327.out 0
                have hfz67_1 := blk_frozen BK327.out 1
                have hfz67_2 := blk_frozen BK327.out 2
                go_wp2_with (first | ((with_reducible refine gate_callee (f := 64) rfl ?_); refine goesL_ (some 67) rfl rfl Try.func64 (by kernel_rfl) rfl #[.agg #[.int .i64 a0_5, .int .i64 a0_6, .string a0_7], .agg #[.int .i64 a2_0, .int .i64 a2_1, .string a2_2]] rfl (by (try simp only [List.map_toArray, List.map_cons, List.map_nil]); first | done | rfl | (simp only [List.length_drop, List.length_take]; rfl)) ?_; (with_reducible refine (spec_ValueOrder.calls kj3 a0_5 a0_6 a0_7 a2_0 a2_1 a2_2 t333 _ A64.out).mono ?_); rintro e w68 ⟨rfl, hb⟩; refine ⟨_, rfl, ?_⟩; have n0_ := Aside0.mk (blk_below (g := gb326) (o := .cells #[.int .i64 a0_0, .int .i64 a0_1, .int .i64 a0_2, .int .i64 a0_3, .string a0_4, .int .i64 a0_5, .int .i64 a0_6, .string a0_7] 30 (0, 0)) (by (with_reducible repeat (first | refine blk_drewN ?_ _ | refine blk_drew ?_ | refine blk_alloc ?_ _)); exact BK326.out) hb); have n1_ := Aside0.mk (blk_below (g := gb327) (o := .cells #[.int .i64 a2_0, .int .i64 a2_1, .string a2_2] 28 (0, 0)) (by (with_reducible repeat (first | refine blk_drewN ?_ _ | refine blk_drew ?_ | refine blk_alloc ?_ _)); exact BK327.out) hb); have n2_ := Aside0.mk (below_step (by repeat (first | (with_reducible first | exact HB.out | apply below_alloc | apply pw_below_drewN | apply below_drew1 | refine below_set ?_ GE326.out | refine below_set ?_ GE327.out) | exact HB.out)) hb); clear BK326; clear BK327; clear HB; have BK326 := n0_; have BK327 := n1_; have HB := n2_; clear n0_ n1_ n2_; (try clear hb); (try clear hb2); (try clear hk); (try clear hi)))
                go_ret
                exact ⟨by first | rfl | (simp [errW_none, errW_some] <;> rfl) | (simp [*, errW_none, errW_some] <;> rfl), by repeat (first | (with_reducible first | exact HB.out | apply below_alloc | apply pw_below_drewN | apply below_drew1 | refine below_set ?_ GE326.out | refine below_set ?_ GE327.out) | exact HB.out)⟩
              · rw [if_neg c63] at H
                have c63b0 : (a1 == 4) = false := beq_eq_false_iff_ne.mpr c63
                have c63b1 : (a1 != 4) = true := bne_iff_ne.mpr c63
                obtain rfl := Option.some.inj H
                go_wp2
                go_ret
                exact ⟨by first | rfl | (simp [errW_none, errW_some] <;> rfl) | (simp [*, errW_none, errW_some] <;> rfl), by repeat (first | (with_reducible first | exact HB.out | apply below_alloc | apply pw_below_drewN | apply below_drew1 | refine below_set ?_ GE326.out | refine below_set ?_ GE327.out) | exact HB.out)⟩

end Go.Proofs.Ytokphjnpkaipcaa.X
