/- Plain functions for the Go functions of this seat, and proofs that each call answers as its plain function does; made by this session's program over the kit's printer. -/
import Derived.Test.YtdgikheibcmcjaaX0
import Derived.Test.YtdgikheibcmcjaaX1
import Derived.Test.YtdgikheibcmcjaaX7
import Derived.Test.YtdgikheibcmcjaaX11
import Derived.Test.YtdgikheibcmcjaaX24
import Derived.Test.YtdgikheibcmcjaaX27
namespace Go.Proofs.Ytdgikheibcmcjaa.X
open Go.RowKit Go.Proofs.YtdgikheibcmcjaaV.PrintWords Go.Proofs.YtdgikheibcmcjaaV.PrintLast Go.Proofs.YtdgikheibcmcjaaV.PrintMore
attribute [local go_sem] max2_int min2_int max_two min_two max_three min_three max_four min_four   -- for this text's walks alone
set_option linter.unusedVariables false
set_option linter.unusedSimpArgs false

attribute [local go_sem high] eqA27
/-! ### laws_FnValueOrder: function 12 -/
def laws_FnValueOrder.j0 : Nat → Bool → Int → Int → ByteArray → Option (Bool)
  | 0, _, _, _, _ => none
  | k + 1, x41, x410000, x410001, x410002 => if x41 = true then (some false) else ((impl_ValueOk.f x410000 x410001 x410002).bind fun t415 => (if t415 = true then (if x410000 = 0 then ((laws_alive.f).bind fun t416 => (some t416)) else ((impl_ValueOrder.f k 0 0 (⟨#[]⟩ : ByteArray) x410000 x410001 x410002).bind fun t417 => (if t417 = (-1) then ((laws_alive.f).bind fun t418 => (some t418)) else (some false)))) else ((laws_alive.f).bind fun t419 => (some t419))))
def laws_FnValueOrder.f (k : Nat) (l0 : List Int) : Option (Bool) := if (l0.length : Int) > 1048576 then (some true) else ((spec_DrawValueOrder.f k l0).bind fun bt402 => ((impl_ValueOrder.f k bt402.1 bt402.2.1 bt402.2.2.1 bt402.2.2.2.1 bt402.2.2.2.2.1 bt402.2.2.2.2.2).bind fun t410 => ((spec_ValueOrder.f k bt402.1 bt402.2.1 bt402.2.2.1 bt402.2.2.2.1 bt402.2.2.2.2.1 bt402.2.2.2.2.2).bind fun t411 => (if t410 = t411 then ((impl_ValueOrder.f k bt402.2.2.2.1 bt402.2.2.2.2.1 bt402.2.2.2.2.2 bt402.1 bt402.2.1 bt402.2.2.1).bind fun t412 => (if t410 = (wrap64 (-t412)) then ((impl_ValueOk.f bt402.1 bt402.2.1 bt402.2.2.1).bind fun t413 => (if t413 = true then ((impl_ValueOk.f bt402.2.2.2.1 bt402.2.2.2.2.1 bt402.2.2.2.2.2).bind fun t414 => (if t414 = true then (laws_FnValueOrder.j0 k ((t410 == 0) != (bt402.1 == bt402.2.2.2.1 && (bt402.2.1 == bt402.2.2.2.2.1 && (bt402.2.2.1.toList == bt402.2.2.2.2.2.toList)))) bt402.2.2.2.1 bt402.2.2.2.2.1 bt402.2.2.2.2.2) else (laws_FnValueOrder.j0 k false bt402.2.2.2.1 bt402.2.2.2.2.1 bt402.2.2.2.2.2))) else (laws_FnValueOrder.j0 k false bt402.2.2.2.1 bt402.2.2.2.2.1 bt402.2.2.2.2.2))) else (some false))) else (some false)))))
theorem laws_FnValueOrder.mono_l : ∀ k, (∀ y0 y1 y2 y3, LeO (laws_FnValueOrder.j0 k y0 y1 y2 y3) (laws_FnValueOrder.j0 (k + 1) y0 y1 y2 y3))
  | 0 => fun _ _ _ _ r h => by simp [laws_FnValueOrder.j0] at h
  | k + 1 => by
    have ih0 := laws_FnValueOrder.mono_l k
    · intro y0 y1 y2 y3
      unfold laws_FnValueOrder.j0
      repeat' first
      | (with_reducible exact ih0 _ _ _ _)
      | (with_reducible exact impl_ValueOrder.mono _ _ _ _ _ _ _)
      | (with_reducible exact spec_DrawValueOrder.mono _ _)
      | (with_reducible exact spec_ValueOrder.mono _ _ _ _ _ _ _)
      | (with_reducible exact LeO.refl _)
      | (with_reducible exact LeO.none _)
      | (with_reducible refine LeO.ite ?_ ?_)
      | (with_reducible refine LeO.bind ?_ (fun _ => ?_))
      | exact ih0 _ _ _ _
      | exact impl_ValueOrder.mono _ _ _ _ _ _ _
      | exact spec_DrawValueOrder.mono _ _
      | exact spec_ValueOrder.mono _ _ _ _ _ _ _
      | exact LeO.none _
      | refine LeO.ite ?_ ?_
      | refine LeO.bind ?_ (fun _ => ?_)
theorem laws_FnValueOrder.mono : ∀ a0 k, LeO (laws_FnValueOrder.f k a0) (laws_FnValueOrder.f (k + 1) a0) := by
  intro a0 k
  have ih0 := laws_FnValueOrder.mono_l k
  unfold laws_FnValueOrder.f
  repeat' first
      | (with_reducible exact ih0 _ _ _ _)
      | (with_reducible exact impl_ValueOrder.mono _ _ _ _ _ _ _)
      | (with_reducible exact spec_DrawValueOrder.mono _ _)
      | (with_reducible exact spec_ValueOrder.mono _ _ _ _ _ _ _)
      | (with_reducible exact LeO.refl _)
      | (with_reducible exact LeO.none _)
      | (with_reducible refine LeO.ite ?_ ?_)
      | (with_reducible refine LeO.bind ?_ (fun _ => ?_))
      | exact ih0 _ _ _ _
      | exact impl_ValueOrder.mono _ _ _ _ _ _ _
      | exact spec_DrawValueOrder.mono _ _
      | exact spec_ValueOrder.mono _ _ _ _ _ _ _
      | exact LeO.none _
      | refine LeO.ite ?_ ?_
      | refine LeO.bind ?_ (fun _ => ?_)
set_option maxHeartbeats 8000000 in
set_option maxRecDepth 100000 in
theorem laws_FnValueOrder.calls (k : Nat) (A0 : Option Addr) (c0 : Nat) (l0 : List Int) (r : Bool) (w : World) (hr0 : Kd.C (Kd.int .u8) w A0 l0.length l0) (hc0 : l0.length ≤ c0) (h : laws_FnValueOrder.f k l0 = some r) :
    Calls Try.prog 12 #[.slice A0 l0.length c0] w fun e w' => e = .returned (.bool r) ∧ Below w.heap.size w w' := by
  have hu27 := Try.underlying27
  have HR0 := Aside0.mk hr0
  have HC0 := Aside0.mk hc0
  clear hr0 hc0
  have HB := Aside0.mk (Below.refl w.heap.size w)
  have H : (if (l0.length : Int) > 1048576 then (some true) else ((spec_DrawValueOrder.f k l0).bind fun bt402 => ((impl_ValueOrder.f k bt402.1 bt402.2.1 bt402.2.2.1 bt402.2.2.2.1 bt402.2.2.2.2.1 bt402.2.2.2.2.2).bind fun t410 => ((spec_ValueOrder.f k bt402.1 bt402.2.1 bt402.2.2.1 bt402.2.2.2.1 bt402.2.2.2.2.1 bt402.2.2.2.2.2).bind fun t411 => (if t410 = t411 then ((impl_ValueOrder.f k bt402.2.2.2.1 bt402.2.2.2.2.1 bt402.2.2.2.2.2 bt402.1 bt402.2.1 bt402.2.2.1).bind fun t412 => (if t410 = (wrap64 (-t412)) then ((impl_ValueOk.f bt402.1 bt402.2.1 bt402.2.2.1).bind fun t413 => (if t413 = true then ((impl_ValueOk.f bt402.2.2.2.1 bt402.2.2.2.2.1 bt402.2.2.2.2.2).bind fun t414 => (if t414 = true then (laws_FnValueOrder.j0 k ((t410 == 0) != (bt402.1 == bt402.2.2.2.1 && (bt402.2.1 == bt402.2.2.2.2.1 && (bt402.2.2.1.toList == bt402.2.2.2.2.2.toList)))) bt402.2.2.2.1 bt402.2.2.2.2.1 bt402.2.2.2.2.2) else (laws_FnValueOrder.j0 k false bt402.2.2.2.1 bt402.2.2.2.2.1 bt402.2.2.2.2.2))) else (laws_FnValueOrder.j0 k false bt402.2.2.2.1 bt402.2.2.2.2.1 bt402.2.2.2.2.2))) else (some false))) else (some false)))))) = some r := h
  clear h
  by_cases c2 : (l0.length : Int) > 1048576
  · rw [if_pos c2] at H
    have c2b0 : decide (1048576 < (l0.length : Int)) = true := decide_eq_true c2
    have c2b1 : decide (1048576 < l0.length) = true := decide_eq_true (by omega)
    clear c2
    obtain rfl := Option.some.inj H
    go_enter Try.func12, Try.ntmps12
    go_wp2
    go_ret
    exact ⟨by first | rfl | (simp [errW_none, errW_some] <;> rfl) | (simp [*, errW_none, errW_some] <;> rfl), by repeat (first | (with_reducible first | exact HB.out | apply below_alloc | apply pw_below_drewN | apply below_drew1) | exact HB.out)⟩
  · rw [if_neg c2] at H
    have c2b0 : decide (1048576 < (l0.length : Int)) = false := decide_eq_false c2
    have c2b1 : decide (1048576 < l0.length) = false := decide_eq_false (by omega)
    clear c2
    replace H := Option.bind_eq_some_iff.mp H
    obtain ⟨⟨t402, t403, t404, t405, t406, t407⟩, A30, H⟩ := H
    replace H : ((impl_ValueOrder.f k t402 t403 t404 t405 t406 t407).bind fun t410 => ((spec_ValueOrder.f k t402 t403 t404 t405 t406 t407).bind fun t411 => (if t410 = t411 then ((impl_ValueOrder.f k t405 t406 t407 t402 t403 t404).bind fun t412 => (if t410 = (wrap64 (-t412)) then ((impl_ValueOk.f t402 t403 t404).bind fun t413 => (if t413 = true then ((impl_ValueOk.f t405 t406 t407).bind fun t414 => (if t414 = true then (laws_FnValueOrder.j0 k ((t410 == 0) != (t402 == t405 && (t403 == t406 && (t404.toList == t407.toList)))) t405 t406 t407) else (laws_FnValueOrder.j0 k false t405 t406 t407))) else (laws_FnValueOrder.j0 k false t405 t406 t407))) else (some false))) else (some false)))) = some r := H
    have A3 := Aside0.mk A30
    clear A30
    replace H := Option.bind_eq_some_iff.mp H
    obtain ⟨t410, A40, H⟩ := H
    replace H : ((spec_ValueOrder.f k t402 t403 t404 t405 t406 t407).bind fun t411 => (if t410 = t411 then ((impl_ValueOrder.f k t405 t406 t407 t402 t403 t404).bind fun t412 => (if t410 = (wrap64 (-t412)) then ((impl_ValueOk.f t402 t403 t404).bind fun t413 => (if t413 = true then ((impl_ValueOk.f t405 t406 t407).bind fun t414 => (if t414 = true then (laws_FnValueOrder.j0 k ((t410 == 0) != (t402 == t405 && (t403 == t406 && (t404.toList == t407.toList)))) t405 t406 t407) else (laws_FnValueOrder.j0 k false t405 t406 t407))) else (laws_FnValueOrder.j0 k false t405 t406 t407))) else (some false))) else (some false))) = some r := H
    have A4 := Aside0.mk A40
    clear A40
    replace H := Option.bind_eq_some_iff.mp H
    obtain ⟨t411, A50, H⟩ := H
    replace H : (if t410 = t411 then ((impl_ValueOrder.f k t405 t406 t407 t402 t403 t404).bind fun t412 => (if t410 = (wrap64 (-t412)) then ((impl_ValueOk.f t402 t403 t404).bind fun t413 => (if t413 = true then ((impl_ValueOk.f t405 t406 t407).bind fun t414 => (if t414 = true then (laws_FnValueOrder.j0 k ((t410 == 0) != (t402 == t405 && (t403 == t406 && (t404.toList == t407.toList)))) t405 t406 t407) else (laws_FnValueOrder.j0 k false t405 t406 t407))) else (laws_FnValueOrder.j0 k false t405 t406 t407))) else (some false))) else (some false)) = some r := H
    have A5 := Aside0.mk A50
    clear A50
    by_cases c6 : t410 = t411
    · rw [if_pos c6] at H
      have c6b0 : (t410 == t411) = true := beq_iff_eq.mpr c6
      have c6b1 : (t410 != t411) = false := bne_eq_false_iff_eq.mpr c6
      clear c6
      replace H := Option.bind_eq_some_iff.mp H
      obtain ⟨t412, A70, H⟩ := H
      replace H : (if t410 = (wrap64 (-t412)) then ((impl_ValueOk.f t402 t403 t404).bind fun t413 => (if t413 = true then ((impl_ValueOk.f t405 t406 t407).bind fun t414 => (if t414 = true then (laws_FnValueOrder.j0 k ((t410 == 0) != (t402 == t405 && (t403 == t406 && (t404.toList == t407.toList)))) t405 t406 t407) else (laws_FnValueOrder.j0 k false t405 t406 t407))) else (laws_FnValueOrder.j0 k false t405 t406 t407))) else (some false)) = some r := H
      have A7 := Aside0.mk A70
      clear A70
      by_cases c8 : t410 = (wrap64 (-t412))
      · rw [if_pos c8] at H
        have c8b0 : (t410 == (wrap64 (-t412))) = true := beq_iff_eq.mpr c8
        have c8b1 : (t410 != (wrap64 (-t412))) = false := bne_eq_false_iff_eq.mpr c8
        clear c8
        have HC9 := Aside0.mk H
        clear H
        go_enter Try.func12, Try.ntmps12
        go_upto_region 9 with (first | ((with_reducible refine gate_callee (f := 41) rfl ?_); refine goesL_ (some 11) rfl rfl Try.func41 (by kernel_rfl) rfl #[.slice A0 l0.length c0] rfl (by (try simp only [List.map_toArray, List.map_cons, List.map_nil]); first | done | rfl | (simp only [List.length_drop, List.length_take]; rfl)) ?_; (with_reducible refine (spec_DrawValueOrder.calls k _ _ l0 t402 t403 t404 t405 t406 t407 _ ?side1 ?side2 A3.out).mono ?_); (case side1 => repeat (first | exact HR0.out | (with_reducible refine Kd.C_alloc ?_ _) | (with_reducible refine Kd.C_drewN ?_ _) | (with_reducible refine Kd.C_drew ?_))); (case side2 => exact HC0.out); rintro e w10 ⟨rfl, hb⟩; refine ⟨_, rfl, ?_⟩; have n0_ := Aside0.mk (below_step (by repeat (first | (with_reducible first | exact HB.out | apply below_alloc | apply pw_below_drewN | apply below_drew1) | exact HB.out)) hb); clear HB; have HB := n0_; clear n0_; (try clear hb); (try clear hb2); (try clear hk); (try clear hi)) | ((with_reducible refine gate_dst (N := 3) rfl ?_); refine box_event ?hg (N := 3) ?hd (cs := #[.int .i64 0, .int .i64 0, .string (⟨#[]⟩ : ByteArray)]) (t := 27) ?hr ?_; (case hd => rfl); (case hg => rfl); (case hr => first | (go_simp; done) | (go_simp; rfl)); intro gb408 hg w11 hbox hb; have n0_ := Aside0.mk (below_step (by repeat (first | (with_reducible first | exact HB.out | apply below_alloc | apply pw_below_drewN | apply below_drew1) | exact HB.out)) hb); have n1_ := Aside0.mk (hbox); have n2_ := Aside0.mk ((by rw [hg]; exact (below_size (by repeat (first | (with_reducible first | exact HB.out | apply below_alloc | apply pw_below_drewN | apply below_drew1) | exact HB.out))) : w.heap.size ≤ gb408)); have n3_ := Aside0.mk ((by rw [hg]; exact (below_size (by repeat (first | (with_reducible first | exact HB.out | apply below_alloc | apply pw_below_drewN | apply below_drew1) | exact HB.out))) : w.heap.size ≤ gb408)); clear HB; have HB := n0_; have BK408 := n1_; have GW408 := n2_; have GE408 := n3_; clear n0_ n1_ n2_ n3_; clear hb hbox hg) | ((with_reducible refine gate_dst (N := 4) rfl ?_); refine box_event ?hg (N := 4) ?hd (cs := #[.int .i64 0, .int .i64 0, .string (⟨#[]⟩ : ByteArray)]) (t := 27) ?hr ?_; (case hd => rfl); (case hg => rfl); (case hr => first | (go_simp; done) | (go_simp; rfl)); intro gb409 hg w12 hbox hb; have n0_ := Aside0.mk (blk_below (g := gb408) (o := .cells #[.int .i64 0, .int .i64 0, .string (⟨#[]⟩ : ByteArray)] 27 (0, 0)) (by (with_reducible repeat (first | refine blk_drewN ?_ _ | refine blk_drew ?_ | refine blk_alloc ?_ _)); exact BK408.out) hb); have n1_ := Aside0.mk (below_step (by repeat (first | (with_reducible first | exact HB.out | apply below_alloc | apply pw_below_drewN | apply below_drew1 | refine below_set ?_ GE408.out) | exact HB.out)) hb); have n2_ := Aside0.mk (hbox); have n3_ := Aside0.mk ((by rw [hg]; exact (below_size (by repeat (first | (with_reducible first | exact HB.out | apply below_alloc | apply pw_below_drewN | apply below_drew1 | refine below_set ?_ GE408.out) | exact HB.out))) : w.heap.size ≤ gb409)); have n4_ := Aside0.mk ((by rw [hg]; exact (below_size (by repeat (first | (with_reducible first | exact HB.out | apply below_alloc | apply pw_below_drewN | apply below_drew1 | refine below_set ?_ GE408.out) | exact HB.out))) : w.heap.size ≤ gb409)); have n5_ := Aside0.mk ((by rw [hg]; exact Nat.ne_of_lt (blk_lt (g := gb408) (o := .cells #[.int .i64 0, .int .i64 0, .string (⟨#[]⟩ : ByteArray)] 27 (0, 0)) (by (with_reducible repeat (first | refine blk_drewN ?_ _ | refine blk_drew ?_ | refine blk_alloc ?_ _)); exact BK408.out)) : gb408 ≠ gb409)); have n6_ := Aside0.mk ((by rw [hg]; exact Nat.ne_of_gt (blk_lt (g := gb408) (o := .cells #[.int .i64 0, .int .i64 0, .string (⟨#[]⟩ : ByteArray)] 27 (0, 0)) (by (with_reducible repeat (first | refine blk_drewN ?_ _ | refine blk_drew ?_ | refine blk_alloc ?_ _)); exact BK408.out)) : gb409 ≠ gb408)); clear BK408; clear HB; have BK408 := n0_; have HB := n1_; have BK409 := n2_; have GW409 := n3_; have GE409 := n4_; have NB408_409 := n5_; have NB409_408 := n6_; clear n0_ n1_ n2_ n3_ n4_ n5_ n6_; clear hb hbox hg; have hnb13 := NB408_409.out; have hnc13 := NB409_408.out; have hcz14_0 : w12.cell? ⟨gb408, 0, none⟩ = some (.int .i64 0) := (blk_cell BK408.out 0).trans rfl; have hcz14_1 : w12.cell? ⟨gb408, 1, none⟩ = some (.int .i64 0) := (blk_cell BK408.out 1).trans rfl; have hcz14_2 : w12.cell? ⟨gb408, 2, none⟩ = some (.string (⟨#[]⟩ : ByteArray)) := (blk_cell BK408.out 2).trans rfl; have hfz14_0 := blk_frozen BK408.out 0; have hfz14_1 := blk_frozen BK408.out 1; have hfz14_2 := blk_frozen BK408.out 2; have hcz15_0 : w12.cell? ⟨gb409, 0, none⟩ = some (.int .i64 0) := (blk_cell BK409.out 0).trans rfl; have hcz15_1 : w12.cell? ⟨gb409, 1, none⟩ = some (.int .i64 0) := (blk_cell BK409.out 1).trans rfl; have hcz15_2 : w12.cell? ⟨gb409, 2, none⟩ = some (.string (⟨#[]⟩ : ByteArray)) := (blk_cell BK409.out 2).trans rfl; have hfz15_0 := blk_frozen BK409.out 0; have hfz15_1 := blk_frozen BK409.out 1; have hfz15_2 := blk_frozen BK409.out 2) | ((with_reducible refine gate_callee (f := 23) rfl ?_); refine goesL_ (some 16) rfl rfl Try.func23 (by kernel_rfl) rfl #[.agg #[.int .i64 t402, .int .i64 t403, .string t404], .agg #[.int .i64 t405, .int .i64 t406, .string t407]] rfl (by (try simp only [List.map_toArray, List.map_cons, List.map_nil]); first | done | rfl | (simp only [List.length_drop, List.length_take]; rfl)) ?_; (with_reducible refine (impl_ValueOrder.calls k t402 t403 t404 t405 t406 t407 t410 _ A4.out).mono ?_); rintro e w16 ⟨rfl, hb⟩; refine ⟨_, rfl, ?_⟩; have n0_ := Aside0.mk (blk_below (g := gb408) (o := .cells #[.int .i64 t402, .int .i64 t403, .string t404] 27 (0, 0)) (by (with_reducible repeat (first | refine blk_drewN ?_ _ | refine blk_drew ?_ | refine blk_alloc ?_ _)); refine blk_far ?_ NB408_409.out _; (with_reducible repeat (first | refine blk_drewN ?_ _ | refine blk_drew ?_ | refine blk_alloc ?_ _)); refine blk_far ?_ NB408_409.out _; (with_reducible repeat (first | refine blk_drewN ?_ _ | refine blk_drew ?_ | refine blk_alloc ?_ _)); refine blk_far ?_ NB408_409.out _; (with_reducible repeat (first | refine blk_drewN ?_ _ | refine blk_drew ?_ | refine blk_alloc ?_ _)); refine blk_put (cs := #[.int .i64 t402, .int .i64 t403, .string (⟨#[]⟩ : ByteArray)]) ?_ 2 _ rfl; (with_reducible repeat (first | refine blk_drewN ?_ _ | refine blk_drew ?_ | refine blk_alloc ?_ _)); refine blk_put (cs := #[.int .i64 t402, .int .i64 0, .string (⟨#[]⟩ : ByteArray)]) ?_ 1 _ rfl; (with_reducible repeat (first | refine blk_drewN ?_ _ | refine blk_drew ?_ | refine blk_alloc ?_ _)); refine blk_put (cs := #[.int .i64 0, .int .i64 0, .string (⟨#[]⟩ : ByteArray)]) ?_ 0 _ rfl; (with_reducible repeat (first | refine blk_drewN ?_ _ | refine blk_drew ?_ | refine blk_alloc ?_ _)); exact BK408.out) hb); have n1_ := Aside0.mk (blk_below (g := gb409) (o := .cells #[.int .i64 t405, .int .i64 t406, .string t407] 27 (0, 0)) (by (with_reducible repeat (first | refine blk_drewN ?_ _ | refine blk_drew ?_ | refine blk_alloc ?_ _)); refine blk_put (cs := #[.int .i64 t405, .int .i64 t406, .string (⟨#[]⟩ : ByteArray)]) ?_ 2 _ rfl; (with_reducible repeat (first | refine blk_drewN ?_ _ | refine blk_drew ?_ | refine blk_alloc ?_ _)); refine blk_put (cs := #[.int .i64 t405, .int .i64 0, .string (⟨#[]⟩ : ByteArray)]) ?_ 1 _ rfl; (with_reducible repeat (first | refine blk_drewN ?_ _ | refine blk_drew ?_ | refine blk_alloc ?_ _)); refine blk_put (cs := #[.int .i64 0, .int .i64 0, .string (⟨#[]⟩ : ByteArray)]) ?_ 0 _ rfl; (with_reducible repeat (first | refine blk_drewN ?_ _ | refine blk_drew ?_ | refine blk_alloc ?_ _)); refine blk_far ?_ NB409_408.out _; (with_reducible repeat (first | refine blk_drewN ?_ _ | refine blk_drew ?_ | refine blk_alloc ?_ _)); refine blk_far ?_ NB409_408.out _; (with_reducible repeat (first | refine blk_drewN ?_ _ | refine blk_drew ?_ | refine blk_alloc ?_ _)); refine blk_far ?_ NB409_408.out _; (with_reducible repeat (first | refine blk_drewN ?_ _ | refine blk_drew ?_ | refine blk_alloc ?_ _)); exact BK409.out) hb); have n2_ := Aside0.mk (below_step (by repeat (first | (with_reducible first | exact HB.out | apply below_alloc | apply pw_below_drewN | apply below_drew1 | refine below_set ?_ GE408.out | refine below_set ?_ GE409.out) | exact HB.out)) hb); clear BK408; clear BK409; clear HB; have BK408 := n0_; have BK409 := n1_; have HB := n2_; clear n0_ n1_ n2_; (try clear hb); (try clear hb2); (try clear hk); (try clear hi); have hcz17_0 : w16.cell? ⟨gb408, 0, none⟩ = some (.int .i64 t402) := (blk_cell BK408.out 0).trans rfl; have hcz17_1 : w16.cell? ⟨gb408, 1, none⟩ = some (.int .i64 t403) := (blk_cell BK408.out 1).trans rfl; have hcz17_2 : w16.cell? ⟨gb408, 2, none⟩ = some (.string t404) := (blk_cell BK408.out 2).trans rfl; have hfz17_0 := blk_frozen BK408.out 0; have hfz17_1 := blk_frozen BK408.out 1; have hfz17_2 := blk_frozen BK408.out 2; have hcz18_0 : w16.cell? ⟨gb409, 0, none⟩ = some (.int .i64 t405) := (blk_cell BK409.out 0).trans rfl; have hcz18_1 : w16.cell? ⟨gb409, 1, none⟩ = some (.int .i64 t406) := (blk_cell BK409.out 1).trans rfl; have hcz18_2 : w16.cell? ⟨gb409, 2, none⟩ = some (.string t407) := (blk_cell BK409.out 2).trans rfl; have hfz18_0 := blk_frozen BK409.out 0; have hfz18_1 := blk_frozen BK409.out 1; have hfz18_2 := blk_frozen BK409.out 2) | ((with_reducible refine gate_callee (f := 22) rfl ?_); refine goesL_ (some 20) rfl rfl Try.func22 (by kernel_rfl) rfl #[.agg #[.int .i64 t402, .int .i64 t403, .string t404], .agg #[.int .i64 t405, .int .i64 t406, .string t407]] rfl (by (try simp only [List.map_toArray, List.map_cons, List.map_nil]); first | done | rfl | (simp only [List.length_drop, List.length_take]; rfl)) ?_; (with_reducible refine (spec_ValueOrder.calls k t402 t403 t404 t405 t406 t407 t411 _ A5.out).mono ?_); rintro e w19 ⟨rfl, hb⟩; refine ⟨_, rfl, ?_⟩; have n0_ := Aside0.mk (blk_below (g := gb408) (o := .cells #[.int .i64 t402, .int .i64 t403, .string t404] 27 (0, 0)) (by (with_reducible repeat (first | refine blk_drewN ?_ _ | refine blk_drew ?_ | refine blk_alloc ?_ _)); exact BK408.out) hb); have n1_ := Aside0.mk (blk_below (g := gb409) (o := .cells #[.int .i64 t405, .int .i64 t406, .string t407] 27 (0, 0)) (by (with_reducible repeat (first | refine blk_drewN ?_ _ | refine blk_drew ?_ | refine blk_alloc ?_ _)); exact BK409.out) hb); have n2_ := Aside0.mk (below_step (by repeat (first | (with_reducible first | exact HB.out | apply below_alloc | apply pw_below_drewN | apply below_drew1 | refine below_set ?_ GE408.out | refine below_set ?_ GE409.out) | exact HB.out)) hb); clear BK408; clear BK409; clear HB; have BK408 := n0_; have BK409 := n1_; have HB := n2_; clear n0_ n1_ n2_; (try clear hb); (try clear hb2); (try clear hk); (try clear hi); have hcz20_0 : w19.cell? ⟨gb409, 0, none⟩ = some (.int .i64 t405) := (blk_cell BK409.out 0).trans rfl; have hcz20_1 : w19.cell? ⟨gb409, 1, none⟩ = some (.int .i64 t406) := (blk_cell BK409.out 1).trans rfl; have hcz20_2 : w19.cell? ⟨gb409, 2, none⟩ = some (.string t407) := (blk_cell BK409.out 2).trans rfl; have hfz20_0 := blk_frozen BK409.out 0; have hfz20_1 := blk_frozen BK409.out 1; have hfz20_2 := blk_frozen BK409.out 2; have hcz21_0 : w19.cell? ⟨gb408, 0, none⟩ = some (.int .i64 t402) := (blk_cell BK408.out 0).trans rfl; have hcz21_1 : w19.cell? ⟨gb408, 1, none⟩ = some (.int .i64 t403) := (blk_cell BK408.out 1).trans rfl; have hcz21_2 : w19.cell? ⟨gb408, 2, none⟩ = some (.string t404) := (blk_cell BK408.out 2).trans rfl; have hfz21_0 := blk_frozen BK408.out 0; have hfz21_1 := blk_frozen BK408.out 1; have hfz21_2 := blk_frozen BK408.out 2) | ((with_reducible refine gate_callee (f := 23) rfl ?_); refine goesL_ (some 25) rfl rfl Try.func23 (by kernel_rfl) rfl #[.agg #[.int .i64 t405, .int .i64 t406, .string t407], .agg #[.int .i64 t402, .int .i64 t403, .string t404]] rfl (by (try simp only [List.map_toArray, List.map_cons, List.map_nil]); first | done | rfl | (simp only [List.length_drop, List.length_take]; rfl)) ?_; (with_reducible refine (impl_ValueOrder.calls k t405 t406 t407 t402 t403 t404 t412 _ A7.out).mono ?_); rintro e w22 ⟨rfl, hb⟩; refine ⟨_, rfl, ?_⟩; have n0_ := Aside0.mk (blk_below (g := gb408) (o := .cells #[.int .i64 t402, .int .i64 t403, .string t404] 27 (0, 0)) (by (with_reducible repeat (first | refine blk_drewN ?_ _ | refine blk_drew ?_ | refine blk_alloc ?_ _)); exact BK408.out) hb); have n1_ := Aside0.mk (blk_below (g := gb409) (o := .cells #[.int .i64 t405, .int .i64 t406, .string t407] 27 (0, 0)) (by (with_reducible repeat (first | refine blk_drewN ?_ _ | refine blk_drew ?_ | refine blk_alloc ?_ _)); exact BK409.out) hb); have n2_ := Aside0.mk (below_step (by repeat (first | (with_reducible first | exact HB.out | apply below_alloc | apply pw_below_drewN | apply below_drew1 | refine below_set ?_ GE408.out | refine below_set ?_ GE409.out) | exact HB.out)) hb); clear BK408; clear BK409; clear HB; have BK408 := n0_; have BK409 := n1_; have HB := n2_; clear n0_ n1_ n2_; (try clear hb); (try clear hb2); (try clear hk); (try clear hi)))
        (try simp only [Act.put, List.setIfInBounds_toArray, List.set_cons_zero, List.set_cons_succ])
        go_cut [41] (fun v41 wc => ∃ (kq : Nat) (x41_8 : Bool), v41 = .bool x41_8 ∧ Aside0 (laws_FnValueOrder.j0 kq x41_8 t405 t406 t407 = some r) ∧ Aside0 (kq ≤ k) ∧ Aside0 (wc.heap[gb408]? = some (.cells #[.int .i64 t402, .int .i64 t403, .string t404] 27 (0, 0))) ∧ Aside0 (wc.heap[gb409]? = some (.cells #[.int .i64 t405, .int .i64 t406, .string t407] 27 (0, 0))) ∧ Aside0 (Below w.heap.size w wc))
        case first =>
          have H := HC9.out
          clear HC9
          replace H := Option.bind_eq_some_iff.mp H
          obtain ⟨t413, A230, H⟩ := H
          replace H : (if t413 = true then ((impl_ValueOk.f t405 t406 t407).bind fun t414 => (if t414 = true then (laws_FnValueOrder.j0 k ((t410 == 0) != (t402 == t405 && (t403 == t406 && (t404.toList == t407.toList)))) t405 t406 t407) else (laws_FnValueOrder.j0 k false t405 t406 t407))) else (laws_FnValueOrder.j0 k false t405 t406 t407)) = some r := H
          have A23 := Aside0.mk A230
          clear A230
          by_cases c24 : t413 = true
          · subst c24
            have H1 : ((impl_ValueOk.f t405 t406 t407).bind fun t414 => (if t414 = true then (laws_FnValueOrder.j0 k ((t410 == 0) != (t402 == t405 && (t403 == t406 && (t404.toList == t407.toList)))) t405 t406 t407) else (laws_FnValueOrder.j0 k false t405 t406 t407))) = some r := by rw [if_pos rfl] at H; exact H
            clear H
            have H := H1
            clear H1
            replace H := Option.bind_eq_some_iff.mp H
            obtain ⟨t414, A250, H⟩ := H
            replace H : (if t414 = true then (laws_FnValueOrder.j0 k ((t410 == 0) != (t402 == t405 && (t403 == t406 && (t404.toList == t407.toList)))) t405 t406 t407) else (laws_FnValueOrder.j0 k false t405 t406 t407)) = some r := H
            have A25 := Aside0.mk A250
            clear A250
            by_cases c26 : t414 = true
            · subst c26
              have H1 : (laws_FnValueOrder.j0 k ((t410 == 0) != (t402 == t405 && (t403 == t406 && (t404.toList == t407.toList)))) t405 t406 t407) = some r := by rw [if_pos rfl] at H; exact H
              clear H
              have H := H1
              clear H1
              have H' := Aside0.mk H
              clear H
              have hnb27 := NB408_409.out
              have hnc27 := NB409_408.out
              have hcz28_0 : w22.cell? ⟨gb408, 0, none⟩ = some (.int .i64 t402) := (blk_cell BK408.out 0).trans rfl
              have hcz28_1 : w22.cell? ⟨gb408, 1, none⟩ = some (.int .i64 t403) := (blk_cell BK408.out 1).trans rfl
              have hcz28_2 : w22.cell? ⟨gb408, 2, none⟩ = some (.string t404) := (blk_cell BK408.out 2).trans rfl
              have hfz28_0 := blk_frozen BK408.out 0
              have hfz28_1 := blk_frozen BK408.out 1
              have hfz28_2 := blk_frozen BK408.out 2
              go_wp2_with (first | ((with_reducible refine gate_callee (f := 39) rfl ?_); refine goesL_ (some 29) rfl rfl Try.func39 (by kernel_rfl) rfl #[.agg #[.int .i64 t402, .int .i64 t403, .string t404]] rfl (by (try simp only [List.map_toArray, List.map_cons, List.map_nil]); first | done | rfl | (simp only [List.length_drop, List.length_take]; rfl)) ?_; (with_reducible refine (impl_ValueOk.calls t402 t403 t404 true _ A23.out).mono ?_); rintro e w29 ⟨rfl, hb⟩; refine ⟨_, rfl, ?_⟩; have n0_ := Aside0.mk (blk_below (g := gb408) (o := .cells #[.int .i64 t402, .int .i64 t403, .string t404] 27 (0, 0)) (by (with_reducible repeat (first | refine blk_drewN ?_ _ | refine blk_drew ?_ | refine blk_alloc ?_ _)); exact BK408.out) hb); have n1_ := Aside0.mk (blk_below (g := gb409) (o := .cells #[.int .i64 t405, .int .i64 t406, .string t407] 27 (0, 0)) (by (with_reducible repeat (first | refine blk_drewN ?_ _ | refine blk_drew ?_ | refine blk_alloc ?_ _)); exact BK409.out) hb); have n2_ := Aside0.mk (below_step (by repeat (first | (with_reducible first | exact HB.out | apply below_alloc | apply pw_below_drewN | apply below_drew1 | refine below_set ?_ GE408.out | refine below_set ?_ GE409.out) | exact HB.out)) hb); clear BK408; clear BK409; clear HB; have BK408 := n0_; have BK409 := n1_; have HB := n2_; clear n0_ n1_ n2_; (try clear hb); (try clear hb2); (try clear hk); (try clear hi); have hcz30_0 : w29.cell? ⟨gb409, 0, none⟩ = some (.int .i64 t405) := (blk_cell BK409.out 0).trans rfl; have hcz30_1 : w29.cell? ⟨gb409, 1, none⟩ = some (.int .i64 t406) := (blk_cell BK409.out 1).trans rfl; have hcz30_2 : w29.cell? ⟨gb409, 2, none⟩ = some (.string t407) := (blk_cell BK409.out 2).trans rfl; have hfz30_0 := blk_frozen BK409.out 0; have hfz30_1 := blk_frozen BK409.out 1; have hfz30_2 := blk_frozen BK409.out 2) | (go_at_call 39; (with_reducible refine (impl_ValueOk.calls t405 t406 t407 true _ A25.out).mono ?_); rintro e w31 ⟨rfl, hb⟩; have n0_ := Aside0.mk (blk_below (g := gb408) (o := .cells #[.int .i64 t402, .int .i64 t403, .string t404] 27 (0, 0)) (by (with_reducible repeat (first | refine blk_drewN ?_ _ | refine blk_drew ?_ | refine blk_alloc ?_ _)); exact BK408.out) hb); have n1_ := Aside0.mk (blk_below (g := gb409) (o := .cells #[.int .i64 t405, .int .i64 t406, .string t407] 27 (0, 0)) (by (with_reducible repeat (first | refine blk_drewN ?_ _ | refine blk_drew ?_ | refine blk_alloc ?_ _)); exact BK409.out) hb); have n2_ := Aside0.mk (below_step (by repeat (first | (with_reducible first | exact HB.out | apply below_alloc | apply pw_below_drewN | apply below_drew1 | refine below_set ?_ GE408.out | refine below_set ?_ GE409.out) | exact HB.out)) hb); clear BK408; clear BK409; clear HB; have BK408 := n0_; have BK409 := n1_; have HB := n2_; clear n0_ n1_ n2_; (try clear hb); (try clear hb2); (try clear hk); (try clear hi); have hcz32_0 : w31.cell? ⟨gb408, 0, none⟩ = some (.int .i64 t402) := (blk_cell BK408.out 0).trans rfl; have hcz32_1 : w31.cell? ⟨gb408, 1, none⟩ = some (.int .i64 t403) := (blk_cell BK408.out 1).trans rfl; have hcz32_2 : w31.cell? ⟨gb408, 2, none⟩ = some (.string t404) := (blk_cell BK408.out 2).trans rfl; have hfz32_0 := blk_frozen BK408.out 0; have hfz32_1 := blk_frozen BK408.out 1; have hfz32_2 := blk_frozen BK408.out 2; have hcz33_0 : w31.cell? ⟨gb409, 0, none⟩ = some (.int .i64 t405) := (blk_cell BK409.out 0).trans rfl; have hcz33_1 : w31.cell? ⟨gb409, 1, none⟩ = some (.int .i64 t406) := (blk_cell BK409.out 1).trans rfl; have hcz33_2 : w31.cell? ⟨gb409, 2, none⟩ = some (.string t407) := (blk_cell BK409.out 2).trans rfl; have hfz33_0 := blk_frozen BK409.out 0; have hfz33_1 := blk_frozen BK409.out 1; have hfz33_2 := blk_frozen BK409.out 2))
              go_meet
              case rel => exact ⟨_, (((t410 == 0) != (t402 == t405 && (t403 == t406 && (t404.toList == t407.toList))))), (by first | rfl | (simp; done) | (simp [*]; done)), H', ⟨by first | omega | exact Nat.le_refl _⟩, ⟨by (with_reducible repeat (first | refine blk_drewN ?_ _ | refine blk_drew ?_ | refine blk_alloc ?_ _)); exact BK408.out⟩, ⟨by (with_reducible repeat (first | refine blk_drewN ?_ _ | refine blk_drew ?_ | refine blk_alloc ?_ _)); exact BK409.out⟩, ⟨by repeat (first | (with_reducible first | exact HB.out | apply below_alloc | apply pw_below_drewN | apply below_drew1 | refine below_set ?_ GE408.out | refine below_set ?_ GE409.out) | exact HB.out)⟩⟩
            · replace c26 := Bool.eq_false_iff.mpr c26
              subst c26
              have H1 : (laws_FnValueOrder.j0 k false t405 t406 t407) = some r := by rw [if_neg (show ¬ (false = true) by decide)] at H; exact H
              clear H
              have H := H1
              clear H1
              have H' := Aside0.mk H
              clear H
              have hnb34 := NB408_409.out
              have hnc34 := NB409_408.out
              have hcz35_0 : w22.cell? ⟨gb408, 0, none⟩ = some (.int .i64 t402) := (blk_cell BK408.out 0).trans rfl
              have hcz35_1 : w22.cell? ⟨gb408, 1, none⟩ = some (.int .i64 t403) := (blk_cell BK408.out 1).trans rfl
              have hcz35_2 : w22.cell? ⟨gb408, 2, none⟩ = some (.string t404) := (blk_cell BK408.out 2).trans rfl
              have hfz35_0 := blk_frozen BK408.out 0
              have hfz35_1 := blk_frozen BK408.out 1
              have hfz35_2 := blk_frozen BK408.out 2
              go_wp2_with (first | ((with_reducible refine gate_callee (f := 39) rfl ?_); refine goesL_ (some 29) rfl rfl Try.func39 (by kernel_rfl) rfl #[.agg #[.int .i64 t402, .int .i64 t403, .string t404]] rfl (by (try simp only [List.map_toArray, List.map_cons, List.map_nil]); first | done | rfl | (simp only [List.length_drop, List.length_take]; rfl)) ?_; (with_reducible refine (impl_ValueOk.calls t402 t403 t404 true _ A23.out).mono ?_); rintro e w36 ⟨rfl, hb⟩; refine ⟨_, rfl, ?_⟩; have n0_ := Aside0.mk (blk_below (g := gb408) (o := .cells #[.int .i64 t402, .int .i64 t403, .string t404] 27 (0, 0)) (by (with_reducible repeat (first | refine blk_drewN ?_ _ | refine blk_drew ?_ | refine blk_alloc ?_ _)); exact BK408.out) hb); have n1_ := Aside0.mk (blk_below (g := gb409) (o := .cells #[.int .i64 t405, .int .i64 t406, .string t407] 27 (0, 0)) (by (with_reducible repeat (first | refine blk_drewN ?_ _ | refine blk_drew ?_ | refine blk_alloc ?_ _)); exact BK409.out) hb); have n2_ := Aside0.mk (below_step (by repeat (first | (with_reducible first | exact HB.out | apply below_alloc | apply pw_below_drewN | apply below_drew1 | refine below_set ?_ GE408.out | refine below_set ?_ GE409.out) | exact HB.out)) hb); clear BK408; clear BK409; clear HB; have BK408 := n0_; have BK409 := n1_; have HB := n2_; clear n0_ n1_ n2_; (try clear hb); (try clear hb2); (try clear hk); (try clear hi); have hcz37_0 : w36.cell? ⟨gb409, 0, none⟩ = some (.int .i64 t405) := (blk_cell BK409.out 0).trans rfl; have hcz37_1 : w36.cell? ⟨gb409, 1, none⟩ = some (.int .i64 t406) := (blk_cell BK409.out 1).trans rfl; have hcz37_2 : w36.cell? ⟨gb409, 2, none⟩ = some (.string t407) := (blk_cell BK409.out 2).trans rfl; have hfz37_0 := blk_frozen BK409.out 0; have hfz37_1 := blk_frozen BK409.out 1; have hfz37_2 := blk_frozen BK409.out 2) | (go_at_call 39; (with_reducible refine (impl_ValueOk.calls t405 t406 t407 false _ A25.out).mono ?_); rintro e w38 ⟨rfl, hb⟩; have n0_ := Aside0.mk (blk_below (g := gb408) (o := .cells #[.int .i64 t402, .int .i64 t403, .string t404] 27 (0, 0)) (by (with_reducible repeat (first | refine blk_drewN ?_ _ | refine blk_drew ?_ | refine blk_alloc ?_ _)); exact BK408.out) hb); have n1_ := Aside0.mk (blk_below (g := gb409) (o := .cells #[.int .i64 t405, .int .i64 t406, .string t407] 27 (0, 0)) (by (with_reducible repeat (first | refine blk_drewN ?_ _ | refine blk_drew ?_ | refine blk_alloc ?_ _)); exact BK409.out) hb); have n2_ := Aside0.mk (below_step (by repeat (first | (with_reducible first | exact HB.out | apply below_alloc | apply pw_below_drewN | apply below_drew1 | refine below_set ?_ GE408.out | refine below_set ?_ GE409.out) | exact HB.out)) hb); clear BK408; clear BK409; clear HB; have BK408 := n0_; have BK409 := n1_; have HB := n2_; clear n0_ n1_ n2_; (try clear hb); (try clear hb2); (try clear hk); (try clear hi)))
              go_meet
              case rel => exact ⟨_, (false), (by first | rfl | (simp; done) | (simp [*]; done)), H', ⟨by first | omega | exact Nat.le_refl _⟩, ⟨by (with_reducible repeat (first | refine blk_drewN ?_ _ | refine blk_drew ?_ | refine blk_alloc ?_ _)); exact BK408.out⟩, ⟨by (with_reducible repeat (first | refine blk_drewN ?_ _ | refine blk_drew ?_ | refine blk_alloc ?_ _)); exact BK409.out⟩, ⟨by repeat (first | (with_reducible first | exact HB.out | apply below_alloc | apply pw_below_drewN | apply below_drew1 | refine below_set ?_ GE408.out | refine below_set ?_ GE409.out) | exact HB.out)⟩⟩
          · replace c24 := Bool.eq_false_iff.mpr c24
            subst c24
            have H1 : (laws_FnValueOrder.j0 k false t405 t406 t407) = some r := by rw [if_neg (show ¬ (false = true) by decide)] at H; exact H
            clear H
            have H := H1
            clear H1
            have H' := Aside0.mk H
            clear H
            have hnb39 := NB408_409.out
            have hnc39 := NB409_408.out
            have hcz40_0 : w22.cell? ⟨gb408, 0, none⟩ = some (.int .i64 t402) := (blk_cell BK408.out 0).trans rfl
            have hcz40_1 : w22.cell? ⟨gb408, 1, none⟩ = some (.int .i64 t403) := (blk_cell BK408.out 1).trans rfl
            have hcz40_2 : w22.cell? ⟨gb408, 2, none⟩ = some (.string t404) := (blk_cell BK408.out 2).trans rfl
            have hfz40_0 := blk_frozen BK408.out 0
            have hfz40_1 := blk_frozen BK408.out 1
            have hfz40_2 := blk_frozen BK408.out 2
            go_wp2_with (first | ((with_reducible refine gate_callee (f := 39) rfl ?_); refine goesL_ (some 29) rfl rfl Try.func39 (by kernel_rfl) rfl #[.agg #[.int .i64 t402, .int .i64 t403, .string t404]] rfl (by (try simp only [List.map_toArray, List.map_cons, List.map_nil]); first | done | rfl | (simp only [List.length_drop, List.length_take]; rfl)) ?_; (with_reducible refine (impl_ValueOk.calls t402 t403 t404 false _ A23.out).mono ?_); rintro e w41 ⟨rfl, hb⟩; refine ⟨_, rfl, ?_⟩; have n0_ := Aside0.mk (blk_below (g := gb408) (o := .cells #[.int .i64 t402, .int .i64 t403, .string t404] 27 (0, 0)) (by (with_reducible repeat (first | refine blk_drewN ?_ _ | refine blk_drew ?_ | refine blk_alloc ?_ _)); exact BK408.out) hb); have n1_ := Aside0.mk (blk_below (g := gb409) (o := .cells #[.int .i64 t405, .int .i64 t406, .string t407] 27 (0, 0)) (by (with_reducible repeat (first | refine blk_drewN ?_ _ | refine blk_drew ?_ | refine blk_alloc ?_ _)); exact BK409.out) hb); have n2_ := Aside0.mk (below_step (by repeat (first | (with_reducible first | exact HB.out | apply below_alloc | apply pw_below_drewN | apply below_drew1 | refine below_set ?_ GE408.out | refine below_set ?_ GE409.out) | exact HB.out)) hb); clear BK408; clear BK409; clear HB; have BK408 := n0_; have BK409 := n1_; have HB := n2_; clear n0_ n1_ n2_; (try clear hb); (try clear hb2); (try clear hk); (try clear hi)))
            go_meet
            case rel => exact ⟨_, (false), (by first | rfl | (simp; done) | (simp [*]; done)), H', ⟨by first | omega | exact Nat.le_refl _⟩, ⟨by (with_reducible repeat (first | refine blk_drewN ?_ _ | refine blk_drew ?_ | refine blk_alloc ?_ _)); exact BK408.out⟩, ⟨by (with_reducible repeat (first | refine blk_drewN ?_ _ | refine blk_drew ?_ | refine blk_alloc ?_ _)); exact BK409.out⟩, ⟨by repeat (first | (with_reducible first | exact HB.out | apply below_alloc | apply pw_below_drewN | apply below_drew1 | refine below_set ?_ GE408.out | refine below_set ?_ GE409.out) | exact HB.out)⟩⟩
        case rest =>
          clear HC9
          try clear c1
          try clear c2
          try clear c2b0
          try clear c2b1
          try clear p2
          try clear c3
          try clear c4
          try clear c6
          try clear c6b0
          try clear c6b1
          try clear p6
          try clear c8
          try clear c8b0
          try clear c8b1
          try clear c12
          try clear c13
          try clear c22
          try clear c23
          try clear c24
          try clear c26
          try clear c27
          try clear c34
          try clear c39
          try clear c41
          try clear hcz14_0
          try clear hcz14_1
          try clear hcz14_2
          try clear hcz15_0
          try clear hcz15_1
          try clear hcz15_2
          try clear hcz17_0
          try clear hcz17_1
          try clear hcz17_2
          try clear hcz18_0
          try clear hcz18_1
          try clear hcz18_2
          try clear hcz20_0
          try clear hcz20_1
          try clear hcz20_2
          try clear hcz21_0
          try clear hcz21_1
          try clear hcz21_2
          try clear hcz28_0
          try clear hcz28_1
          try clear hcz28_2
          try clear hcz30_0
          try clear hcz30_1
          try clear hcz30_2
          try clear hcz32_0
          try clear hcz32_1
          try clear hcz32_2
          try clear hcz33_0
          try clear hcz33_1
          try clear hcz33_2
          try clear hcz35_0
          try clear hcz35_1
          try clear hcz35_2
          try clear hcz37_0
          try clear hcz37_1
          try clear hcz37_2
          try clear hcz40_0
          try clear hcz40_1
          try clear hcz40_2
          try clear hfz14_0
          try clear hfz14_1
          try clear hfz14_2
          try clear hfz15_0
          try clear hfz15_1
          try clear hfz15_2
          try clear hfz17_0
          try clear hfz17_1
          try clear hfz17_2
          try clear hfz18_0
          try clear hfz18_1
          try clear hfz18_2
          try clear hfz20_0
          try clear hfz20_1
          try clear hfz20_2
          try clear hfz21_0
          try clear hfz21_1
          try clear hfz21_2
          try clear hfz28_0
          try clear hfz28_1
          try clear hfz28_2
          try clear hfz30_0
          try clear hfz30_1
          try clear hfz30_2
          try clear hfz32_0
          try clear hfz32_1
          try clear hfz32_2
          try clear hfz33_0
          try clear hfz33_1
          try clear hfz33_2
          try clear hfz35_0
          try clear hfz35_1
          try clear hfz35_2
          try clear hfz37_0
          try clear hfz37_1
          try clear hfz37_2
          try clear hfz40_0
          try clear hfz40_1
          try clear hfz40_2
          obtain ⟨kq, x41_8, rfl, HA, HJ8, BK408, BK409, HB⟩ := hcut
          cases kq with
          | zero => exact absurd HA.out (by simp [laws_FnValueOrder.j0])
          | succ kj8 =>
            have H := HA.out
            clear HA
            simp only [laws_FnValueOrder.j0] at H
            by_cases c42 : x41_8 = true
            · subst c42
              have H1 : (some false) = some r := by rw [if_pos rfl] at H; exact H
              clear H
              have H := H1
              clear H1
              obtain rfl := Option.some.inj H
              go_wp2
              go_ret
              exact ⟨by first | rfl | (simp [errW_none, errW_some] <;> rfl) | (simp [*, errW_none, errW_some] <;> rfl), by repeat (first | (with_reducible first | exact HB.out | apply below_alloc | apply pw_below_drewN | apply below_drew1 | refine below_set ?_ GE408.out | refine below_set ?_ GE409.out) | exact HB.out)⟩
            · replace c42 := Bool.eq_false_iff.mpr c42
              subst c42
              have H1 : ((impl_ValueOk.f t405 t406 t407).bind fun t415 => (if t415 = true then (if t405 = 0 then ((laws_alive.f).bind fun t416 => (some t416)) else ((impl_ValueOrder.f kj8 0 0 (⟨#[]⟩ : ByteArray) t405 t406 t407).bind fun t417 => (if t417 = (-1) then ((laws_alive.f).bind fun t418 => (some t418)) else (some false)))) else ((laws_alive.f).bind fun t419 => (some t419)))) = some r := by rw [if_neg (show ¬ (false = true) by decide)] at H; exact H
              clear H
              have H := H1
              clear H1
              replace H := Option.bind_eq_some_iff.mp H
              obtain ⟨t415, A430, H⟩ := H
              replace H : (if t415 = true then (if t405 = 0 then ((laws_alive.f).bind fun t416 => (some t416)) else ((impl_ValueOrder.f kj8 0 0 (⟨#[]⟩ : ByteArray) t405 t406 t407).bind fun t417 => (if t417 = (-1) then ((laws_alive.f).bind fun t418 => (some t418)) else (some false)))) else ((laws_alive.f).bind fun t419 => (some t419))) = some r := H
              have A43 := Aside0.mk A430
              clear A430
              by_cases c44 : t415 = true
              · subst c44
                have H1 : (if t405 = 0 then ((laws_alive.f).bind fun t416 => (some t416)) else ((impl_ValueOrder.f kj8 0 0 (⟨#[]⟩ : ByteArray) t405 t406 t407).bind fun t417 => (if t417 = (-1) then ((laws_alive.f).bind fun t418 => (some t418)) else (some false)))) = some r := by rw [if_pos rfl] at H; exact H
                clear H
                have H := H1
                clear H1
                by_cases c45 : t405 = 0
                · rw [if_pos c45] at H
                  have c45b0 : (t405 == 0) = true := beq_iff_eq.mpr c45
                  have c45b1 : (t405 != 0) = false := bne_eq_false_iff_eq.mpr c45
                  clear c45
                  replace H := Option.bind_eq_some_iff.mp H
                  obtain ⟨t416, A460, H⟩ := H
                  replace H : (some t416) = some r := H
                  have A46 := Aside0.mk A460
                  clear A460
                  obtain rfl := Option.some.inj H
                  have hnb47 := NB409_408.out
                  have hnc47 := NB408_409.out
                  have hcz48_0 : wc.cell? ⟨gb409, 0, none⟩ = some (.int .i64 t405) := (blk_cell BK409.out 0).trans rfl
                  have hcz48_1 : wc.cell? ⟨gb409, 1, none⟩ = some (.int .i64 t406) := (blk_cell BK409.out 1).trans rfl
                  have hcz48_2 : wc.cell? ⟨gb409, 2, none⟩ = some (.string t407) := (blk_cell BK409.out 2).trans rfl
                  have hfz48_0 := blk_frozen BK409.out 0
                  have hfz48_1 := blk_frozen BK409.out 1
                  have hfz48_2 := blk_frozen BK409.out 2
                  go_wp2_with (first | ((with_reducible refine gate_callee (f := 39) rfl ?_); refine goesL_ (some 43) rfl rfl Try.func39 (by kernel_rfl) rfl #[.agg #[.int .i64 t405, .int .i64 t406, .string t407]] rfl (by (try simp only [List.map_toArray, List.map_cons, List.map_nil]); first | done | rfl | (simp only [List.length_drop, List.length_take]; rfl)) ?_; (with_reducible refine (impl_ValueOk.calls t405 t406 t407 true _ A43.out).mono ?_); rintro e w49 ⟨rfl, hb⟩; refine ⟨_, rfl, ?_⟩; have n0_ := Aside0.mk (blk_below (g := gb408) (o := .cells #[.int .i64 t402, .int .i64 t403, .string t404] 27 (0, 0)) (by (with_reducible repeat (first | refine blk_drewN ?_ _ | refine blk_drew ?_ | refine blk_alloc ?_ _)); exact BK408.out) hb); have n1_ := Aside0.mk (blk_below (g := gb409) (o := .cells #[.int .i64 t405, .int .i64 t406, .string t407] 27 (0, 0)) (by (with_reducible repeat (first | refine blk_drewN ?_ _ | refine blk_drew ?_ | refine blk_alloc ?_ _)); exact BK409.out) hb); have n2_ := Aside0.mk (below_step (by repeat (first | (with_reducible first | exact HB.out | apply below_alloc | apply pw_below_drewN | apply below_drew1 | refine below_set ?_ GE408.out | refine below_set ?_ GE409.out) | exact HB.out)) hb); clear BK408; clear BK409; clear HB; have BK408 := n0_; have BK409 := n1_; have HB := n2_; clear n0_ n1_ n2_; (try clear hb); (try clear hb2); (try clear hk); (try clear hi); have hcz50_0 : w49.cell? ⟨gb409, 0, none⟩ = some (.int .i64 t405) := (blk_cell BK409.out 0).trans rfl; have hcz50_1 : w49.cell? ⟨gb409, 1, none⟩ = some (.int .i64 t406) := (blk_cell BK409.out 1).trans rfl; have hcz50_2 : w49.cell? ⟨gb409, 2, none⟩ = some (.string t407) := (blk_cell BK409.out 2).trans rfl; have hfz50_0 := blk_frozen BK409.out 0; have hfz50_1 := blk_frozen BK409.out 1; have hfz50_2 := blk_frozen BK409.out 2) | (go_at_call 37; (with_reducible refine (laws_alive.calls  t416 _ A46.out).mono ?_); rintro e w51 ⟨rfl, hb⟩; have n0_ := Aside0.mk (blk_below (g := gb408) (o := .cells #[.int .i64 t402, .int .i64 t403, .string t404] 27 (0, 0)) (by (with_reducible repeat (first | refine blk_drewN ?_ _ | refine blk_drew ?_ | refine blk_alloc ?_ _)); exact BK408.out) hb); have n1_ := Aside0.mk (blk_below (g := gb409) (o := .cells #[.int .i64 t405, .int .i64 t406, .string t407] 27 (0, 0)) (by (with_reducible repeat (first | refine blk_drewN ?_ _ | refine blk_drew ?_ | refine blk_alloc ?_ _)); exact BK409.out) hb); have n2_ := Aside0.mk (below_step (by repeat (first | (with_reducible first | exact HB.out | apply below_alloc | apply pw_below_drewN | apply below_drew1 | refine below_set ?_ GE408.out | refine below_set ?_ GE409.out) | exact HB.out)) hb); clear BK408; clear BK409; clear HB; have BK408 := n0_; have BK409 := n1_; have HB := n2_; clear n0_ n1_ n2_; (try clear hb); (try clear hb2); (try clear hk); (try clear hi)))
                  go_ret
                  exact ⟨by first | rfl | (simp [errW_none, errW_some] <;> rfl) | (simp [*, errW_none, errW_some] <;> rfl), by repeat (first | (with_reducible first | exact HB.out | apply below_alloc | apply pw_below_drewN | apply below_drew1 | refine below_set ?_ GE408.out | refine below_set ?_ GE409.out) | exact HB.out)⟩
                · rw [if_neg c45] at H
                  have c45b0 : (t405 == 0) = false := beq_eq_false_iff_ne.mpr c45
                  have c45b1 : (t405 != 0) = true := bne_iff_ne.mpr c45
                  replace H := Option.bind_eq_some_iff.mp H
                  obtain ⟨t417, A520, H⟩ := H
                  replace H : (if t417 = (-1) then ((laws_alive.f).bind fun t418 => (some t418)) else (some false)) = some r := H
                  have A52 := Aside0.mk A520
                  clear A520
                  by_cases c53 : t417 = (-1)
                  · rw [if_pos c53] at H
                    have c53b0 : (t417 == (-1)) = true := beq_iff_eq.mpr c53
                    have c53b1 : (t417 != (-1)) = false := bne_eq_false_iff_eq.mpr c53
                    clear c53
                    replace H := Option.bind_eq_some_iff.mp H
                    obtain ⟨t418, A540, H⟩ := H
                    replace H : (some t418) = some r := H
                    have A54 := Aside0.mk A540
                    clear A540
                    obtain rfl := Option.some.inj H
                    have hnb55 := NB409_408.out
                    have hnc55 := NB408_409.out
                    have hcz56_0 : wc.cell? ⟨gb409, 0, none⟩ = some (.int .i64 t405) := (blk_cell BK409.out 0).trans rfl
                    have hcz56_1 : wc.cell? ⟨gb409, 1, none⟩ = some (.int .i64 t406) := (blk_cell BK409.out 1).trans rfl
                    have hcz56_2 : wc.cell? ⟨gb409, 2, none⟩ = some (.string t407) := (blk_cell BK409.out 2).trans rfl
                    have hfz56_0 := blk_frozen BK409.out 0
                    have hfz56_1 := blk_frozen BK409.out 1
                    have hfz56_2 := blk_frozen BK409.out 2
                    go_wp2_with (first | ((with_reducible refine gate_callee (f := 39) rfl ?_); refine goesL_ (some 43) rfl rfl Try.func39 (by kernel_rfl) rfl #[.agg #[.int .i64 t405, .int .i64 t406, .string t407]] rfl (by (try simp only [List.map_toArray, List.map_cons, List.map_nil]); first | done | rfl | (simp only [List.length_drop, List.length_take]; rfl)) ?_; (with_reducible refine (impl_ValueOk.calls t405 t406 t407 true _ A43.out).mono ?_); rintro e w57 ⟨rfl, hb⟩; refine ⟨_, rfl, ?_⟩; have n0_ := Aside0.mk (blk_below (g := gb408) (o := .cells #[.int .i64 t402, .int .i64 t403, .string t404] 27 (0, 0)) (by (with_reducible repeat (first | refine blk_drewN ?_ _ | refine blk_drew ?_ | refine blk_alloc ?_ _)); exact BK408.out) hb); have n1_ := Aside0.mk (blk_below (g := gb409) (o := .cells #[.int .i64 t405, .int .i64 t406, .string t407] 27 (0, 0)) (by (with_reducible repeat (first | refine blk_drewN ?_ _ | refine blk_drew ?_ | refine blk_alloc ?_ _)); exact BK409.out) hb); have n2_ := Aside0.mk (below_step (by repeat (first | (with_reducible first | exact HB.out | apply below_alloc | apply pw_below_drewN | apply below_drew1 | refine below_set ?_ GE408.out | refine below_set ?_ GE409.out) | exact HB.out)) hb); clear BK408; clear BK409; clear HB; have BK408 := n0_; have BK409 := n1_; have HB := n2_; clear n0_ n1_ n2_; (try clear hb); (try clear hb2); (try clear hk); (try clear hi); have hcz58_0 : w57.cell? ⟨gb409, 0, none⟩ = some (.int .i64 t405) := (blk_cell BK409.out 0).trans rfl; have hcz58_1 : w57.cell? ⟨gb409, 1, none⟩ = some (.int .i64 t406) := (blk_cell BK409.out 1).trans rfl; have hcz58_2 : w57.cell? ⟨gb409, 2, none⟩ = some (.string t407) := (blk_cell BK409.out 2).trans rfl; have hfz58_0 := blk_frozen BK409.out 0; have hfz58_1 := blk_frozen BK409.out 1; have hfz58_2 := blk_frozen BK409.out 2) | (go_at_call 23; (with_reducible refine (impl_ValueOrder.calls kj8 0 0 (⟨#[]⟩ : ByteArray) t405 t406 t407 t417 _ A52.out).mono ?_); rintro e w59 ⟨rfl, hb⟩; have n0_ := Aside0.mk (blk_below (g := gb408) (o := .cells #[.int .i64 t402, .int .i64 t403, .string t404] 27 (0, 0)) (by (with_reducible repeat (first | refine blk_drewN ?_ _ | refine blk_drew ?_ | refine blk_alloc ?_ _)); exact BK408.out) hb); have n1_ := Aside0.mk (blk_below (g := gb409) (o := .cells #[.int .i64 t405, .int .i64 t406, .string t407] 27 (0, 0)) (by (with_reducible repeat (first | refine blk_drewN ?_ _ | refine blk_drew ?_ | refine blk_alloc ?_ _)); exact BK409.out) hb); have n2_ := Aside0.mk (below_step (by repeat (first | (with_reducible first | exact HB.out | apply below_alloc | apply pw_below_drewN | apply below_drew1 | refine below_set ?_ GE408.out | refine below_set ?_ GE409.out) | exact HB.out)) hb); clear BK408; clear BK409; clear HB; have BK408 := n0_; have BK409 := n1_; have HB := n2_; clear n0_ n1_ n2_; (try clear hb); (try clear hb2); (try clear hk); (try clear hi)) | (go_at_call 37; (with_reducible refine (laws_alive.calls  t418 _ A54.out).mono ?_); rintro e w60 ⟨rfl, hb⟩; have n0_ := Aside0.mk (blk_below (g := gb408) (o := .cells #[.int .i64 t402, .int .i64 t403, .string t404] 27 (0, 0)) (by (with_reducible repeat (first | refine blk_drewN ?_ _ | refine blk_drew ?_ | refine blk_alloc ?_ _)); exact BK408.out) hb); have n1_ := Aside0.mk (blk_below (g := gb409) (o := .cells #[.int .i64 t405, .int .i64 t406, .string t407] 27 (0, 0)) (by (with_reducible repeat (first | refine blk_drewN ?_ _ | refine blk_drew ?_ | refine blk_alloc ?_ _)); exact BK409.out) hb); have n2_ := Aside0.mk (below_step (by repeat (first | (with_reducible first | exact HB.out | apply below_alloc | apply pw_below_drewN | apply below_drew1 | refine below_set ?_ GE408.out | refine below_set ?_ GE409.out) | exact HB.out)) hb); clear BK408; clear BK409; clear HB; have BK408 := n0_; have BK409 := n1_; have HB := n2_; clear n0_ n1_ n2_; (try clear hb); (try clear hb2); (try clear hk); (try clear hi)))
                    go_ret
                    exact ⟨by first | rfl | (simp [errW_none, errW_some] <;> rfl) | (simp [*, errW_none, errW_some] <;> rfl), by repeat (first | (with_reducible first | exact HB.out | apply below_alloc | apply pw_below_drewN | apply below_drew1 | refine below_set ?_ GE408.out | refine below_set ?_ GE409.out) | exact HB.out)⟩
                  · rw [if_neg c53] at H
                    have c53b0 : (t417 == (-1)) = false := beq_eq_false_iff_ne.mpr c53
                    have c53b1 : (t417 != (-1)) = true := bne_iff_ne.mpr c53
                    obtain rfl := Option.some.inj H
                    have hnb61 := NB409_408.out
                    have hnc61 := NB408_409.out
                    have hcz62_0 : wc.cell? ⟨gb409, 0, none⟩ = some (.int .i64 t405) := (blk_cell BK409.out 0).trans rfl
                    have hcz62_1 : wc.cell? ⟨gb409, 1, none⟩ = some (.int .i64 t406) := (blk_cell BK409.out 1).trans rfl
                    have hcz62_2 : wc.cell? ⟨gb409, 2, none⟩ = some (.string t407) := (blk_cell BK409.out 2).trans rfl
                    have hfz62_0 := blk_frozen BK409.out 0
                    have hfz62_1 := blk_frozen BK409.out 1
                    have hfz62_2 := blk_frozen BK409.out 2
                    go_wp2_with (first | ((with_reducible refine gate_callee (f := 39) rfl ?_); refine goesL_ (some 43) rfl rfl Try.func39 (by kernel_rfl) rfl #[.agg #[.int .i64 t405, .int .i64 t406, .string t407]] rfl (by (try simp only [List.map_toArray, List.map_cons, List.map_nil]); first | done | rfl | (simp only [List.length_drop, List.length_take]; rfl)) ?_; (with_reducible refine (impl_ValueOk.calls t405 t406 t407 true _ A43.out).mono ?_); rintro e w63 ⟨rfl, hb⟩; refine ⟨_, rfl, ?_⟩; have n0_ := Aside0.mk (blk_below (g := gb408) (o := .cells #[.int .i64 t402, .int .i64 t403, .string t404] 27 (0, 0)) (by (with_reducible repeat (first | refine blk_drewN ?_ _ | refine blk_drew ?_ | refine blk_alloc ?_ _)); exact BK408.out) hb); have n1_ := Aside0.mk (blk_below (g := gb409) (o := .cells #[.int .i64 t405, .int .i64 t406, .string t407] 27 (0, 0)) (by (with_reducible repeat (first | refine blk_drewN ?_ _ | refine blk_drew ?_ | refine blk_alloc ?_ _)); exact BK409.out) hb); have n2_ := Aside0.mk (below_step (by repeat (first | (with_reducible first | exact HB.out | apply below_alloc | apply pw_below_drewN | apply below_drew1 | refine below_set ?_ GE408.out | refine below_set ?_ GE409.out) | exact HB.out)) hb); clear BK408; clear BK409; clear HB; have BK408 := n0_; have BK409 := n1_; have HB := n2_; clear n0_ n1_ n2_; (try clear hb); (try clear hb2); (try clear hk); (try clear hi); have hcz64_0 : w63.cell? ⟨gb409, 0, none⟩ = some (.int .i64 t405) := (blk_cell BK409.out 0).trans rfl; have hcz64_1 : w63.cell? ⟨gb409, 1, none⟩ = some (.int .i64 t406) := (blk_cell BK409.out 1).trans rfl; have hcz64_2 : w63.cell? ⟨gb409, 2, none⟩ = some (.string t407) := (blk_cell BK409.out 2).trans rfl; have hfz64_0 := blk_frozen BK409.out 0; have hfz64_1 := blk_frozen BK409.out 1; have hfz64_2 := blk_frozen BK409.out 2) | (go_at_call 23; (with_reducible refine (impl_ValueOrder.calls kj8 0 0 (⟨#[]⟩ : ByteArray) t405 t406 t407 t417 _ A52.out).mono ?_); rintro e w65 ⟨rfl, hb⟩; have n0_ := Aside0.mk (blk_below (g := gb408) (o := .cells #[.int .i64 t402, .int .i64 t403, .string t404] 27 (0, 0)) (by (with_reducible repeat (first | refine blk_drewN ?_ _ | refine blk_drew ?_ | refine blk_alloc ?_ _)); exact BK408.out) hb); have n1_ := Aside0.mk (blk_below (g := gb409) (o := .cells #[.int .i64 t405, .int .i64 t406, .string t407] 27 (0, 0)) (by (with_reducible repeat (first | refine blk_drewN ?_ _ | refine blk_drew ?_ | refine blk_alloc ?_ _)); exact BK409.out) hb); have n2_ := Aside0.mk (below_step (by repeat (first | (with_reducible first | exact HB.out | apply below_alloc | apply pw_below_drewN | apply below_drew1 | refine below_set ?_ GE408.out | refine below_set ?_ GE409.out) | exact HB.out)) hb); clear BK408; clear BK409; clear HB; have BK408 := n0_; have BK409 := n1_; have HB := n2_; clear n0_ n1_ n2_; (try clear hb); (try clear hb2); (try clear hk); (try clear hi)))
                    go_ret
                    exact ⟨by first | rfl | (simp [errW_none, errW_some] <;> rfl) | (simp [*, errW_none, errW_some] <;> rfl), by repeat (first | (with_reducible first | exact HB.out | apply below_alloc | apply pw_below_drewN | apply below_drew1 | refine below_set ?_ GE408.out | refine below_set ?_ GE409.out) | exact HB.out)⟩
              · replace c44 := Bool.eq_false_iff.mpr c44
                subst c44
                have H1 : ((laws_alive.f).bind fun t419 => (some t419)) = some r := by rw [if_neg (show ¬ (false = true) by decide)] at H; exact H
                clear H
                have H := H1
                clear H1
                replace H := Option.bind_eq_some_iff.mp H
                obtain ⟨t419, A660, H⟩ := H
                replace H : (some t419) = some r := H
                have A66 := Aside0.mk A660
                clear A660
                obtain rfl := Option.some.inj H
                have hnb67 := NB409_408.out
                have hnc67 := NB408_409.out
                have hcz68_0 : wc.cell? ⟨gb409, 0, none⟩ = some (.int .i64 t405) := (blk_cell BK409.out 0).trans rfl
                have hcz68_1 : wc.cell? ⟨gb409, 1, none⟩ = some (.int .i64 t406) := (blk_cell BK409.out 1).trans rfl
                have hcz68_2 : wc.cell? ⟨gb409, 2, none⟩ = some (.string t407) := (blk_cell BK409.out 2).trans rfl
                have hfz68_0 := blk_frozen BK409.out 0
                have hfz68_1 := blk_frozen BK409.out 1
                have hfz68_2 := blk_frozen BK409.out 2
                go_wp2_with (first | ((with_reducible refine gate_callee (f := 39) rfl ?_); refine goesL_ (some 43) rfl rfl Try.func39 (by kernel_rfl) rfl #[.agg #[.int .i64 t405, .int .i64 t406, .string t407]] rfl (by (try simp only [List.map_toArray, List.map_cons, List.map_nil]); first | done | rfl | (simp only [List.length_drop, List.length_take]; rfl)) ?_; (with_reducible refine (impl_ValueOk.calls t405 t406 t407 false _ A43.out).mono ?_); rintro e w69 ⟨rfl, hb⟩; refine ⟨_, rfl, ?_⟩; have n0_ := Aside0.mk (blk_below (g := gb408) (o := .cells #[.int .i64 t402, .int .i64 t403, .string t404] 27 (0, 0)) (by (with_reducible repeat (first | refine blk_drewN ?_ _ | refine blk_drew ?_ | refine blk_alloc ?_ _)); exact BK408.out) hb); have n1_ := Aside0.mk (blk_below (g := gb409) (o := .cells #[.int .i64 t405, .int .i64 t406, .string t407] 27 (0, 0)) (by (with_reducible repeat (first | refine blk_drewN ?_ _ | refine blk_drew ?_ | refine blk_alloc ?_ _)); exact BK409.out) hb); have n2_ := Aside0.mk (below_step (by repeat (first | (with_reducible first | exact HB.out | apply below_alloc | apply pw_below_drewN | apply below_drew1 | refine below_set ?_ GE408.out | refine below_set ?_ GE409.out) | exact HB.out)) hb); clear BK408; clear BK409; clear HB; have BK408 := n0_; have BK409 := n1_; have HB := n2_; clear n0_ n1_ n2_; (try clear hb); (try clear hb2); (try clear hk); (try clear hi)) | (go_at_call 37; (with_reducible refine (laws_alive.calls  t419 _ A66.out).mono ?_); rintro e w70 ⟨rfl, hb⟩; have n0_ := Aside0.mk (blk_below (g := gb408) (o := .cells #[.int .i64 t402, .int .i64 t403, .string t404] 27 (0, 0)) (by (with_reducible repeat (first | refine blk_drewN ?_ _ | refine blk_drew ?_ | refine blk_alloc ?_ _)); exact BK408.out) hb); have n1_ := Aside0.mk (blk_below (g := gb409) (o := .cells #[.int .i64 t405, .int .i64 t406, .string t407] 27 (0, 0)) (by (with_reducible repeat (first | refine blk_drewN ?_ _ | refine blk_drew ?_ | refine blk_alloc ?_ _)); exact BK409.out) hb); have n2_ := Aside0.mk (below_step (by repeat (first | (with_reducible first | exact HB.out | apply below_alloc | apply pw_below_drewN | apply below_drew1 | refine below_set ?_ GE408.out | refine below_set ?_ GE409.out) | exact HB.out)) hb); clear BK408; clear BK409; clear HB; have BK408 := n0_; have BK409 := n1_; have HB := n2_; clear n0_ n1_ n2_; (try clear hb); (try clear hb2); (try clear hk); (try clear hi)))
                go_ret
                exact ⟨by first | rfl | (simp [errW_none, errW_some] <;> rfl) | (simp [*, errW_none, errW_some] <;> rfl), by repeat (first | (with_reducible first | exact HB.out | apply below_alloc | apply pw_below_drewN | apply below_drew1 | refine below_set ?_ GE408.out | refine below_set ?_ GE409.out) | exact HB.out)⟩
      · rw [if_neg c8] at H
        have c8b0 : (t410 == (wrap64 (-t412))) = false := beq_eq_false_iff_ne.mpr c8
        have c8b1 : (t410 != (wrap64 (-t412))) = true := bne_iff_ne.mpr c8
        obtain rfl := Option.some.inj H
        go_enter Try.func12, Try.ntmps12
        go_wp2_with (first | ((with_reducible refine gate_callee (f := 41) rfl ?_); refine goesL_ (some 11) rfl rfl Try.func41 (by kernel_rfl) rfl #[.slice A0 l0.length c0] rfl (by (try simp only [List.map_toArray, List.map_cons, List.map_nil]); first | done | rfl | (simp only [List.length_drop, List.length_take]; rfl)) ?_; (with_reducible refine (spec_DrawValueOrder.calls k _ _ l0 t402 t403 t404 t405 t406 t407 _ ?side1 ?side2 A3.out).mono ?_); (case side1 => repeat (first | exact HR0.out | (with_reducible refine Kd.C_alloc ?_ _) | (with_reducible refine Kd.C_drewN ?_ _) | (with_reducible refine Kd.C_drew ?_))); (case side2 => exact HC0.out); rintro e w71 ⟨rfl, hb⟩; refine ⟨_, rfl, ?_⟩; have n0_ := Aside0.mk (below_step (by repeat (first | (with_reducible first | exact HB.out | apply below_alloc | apply pw_below_drewN | apply below_drew1) | exact HB.out)) hb); clear HB; have HB := n0_; clear n0_; (try clear hb); (try clear hb2); (try clear hk); (try clear hi)) | ((with_reducible refine gate_dst (N := 3) rfl ?_); refine box_event ?hg (N := 3) ?hd (cs := #[.int .i64 0, .int .i64 0, .string (⟨#[]⟩ : ByteArray)]) (t := 27) ?hr ?_; (case hd => rfl); (case hg => rfl); (case hr => first | (go_simp; done) | (go_simp; rfl)); intro gb408 hg w72 hbox hb; have n0_ := Aside0.mk (below_step (by repeat (first | (with_reducible first | exact HB.out | apply below_alloc | apply pw_below_drewN | apply below_drew1) | exact HB.out)) hb); have n1_ := Aside0.mk (hbox); have n2_ := Aside0.mk ((by rw [hg]; exact (below_size (by repeat (first | (with_reducible first | exact HB.out | apply below_alloc | apply pw_below_drewN | apply below_drew1) | exact HB.out))) : w.heap.size ≤ gb408)); have n3_ := Aside0.mk ((by rw [hg]; exact (below_size (by repeat (first | (with_reducible first | exact HB.out | apply below_alloc | apply pw_below_drewN | apply below_drew1) | exact HB.out))) : w.heap.size ≤ gb408)); clear HB; have HB := n0_; have BK408 := n1_; have GW408 := n2_; have GE408 := n3_; clear n0_ n1_ n2_ n3_; clear hb hbox hg) | ((with_reducible refine gate_dst (N := 4) rfl ?_); refine box_event ?hg (N := 4) ?hd (cs := #[.int .i64 0, .int .i64 0, .string (⟨#[]⟩ : ByteArray)]) (t := 27) ?hr ?_; (case hd => rfl); (case hg => rfl); (case hr => first | (go_simp; done) | (go_simp; rfl)); intro gb409 hg w73 hbox hb; have n0_ := Aside0.mk (blk_below (g := gb408) (o := .cells #[.int .i64 0, .int .i64 0, .string (⟨#[]⟩ : ByteArray)] 27 (0, 0)) (by (with_reducible repeat (first | refine blk_drewN ?_ _ | refine blk_drew ?_ | refine blk_alloc ?_ _)); exact BK408.out) hb); have n1_ := Aside0.mk (below_step (by repeat (first | (with_reducible first | exact HB.out | apply below_alloc | apply pw_below_drewN | apply below_drew1 | refine below_set ?_ GE408.out) | exact HB.out)) hb); have n2_ := Aside0.mk (hbox); have n3_ := Aside0.mk ((by rw [hg]; exact (below_size (by repeat (first | (with_reducible first | exact HB.out | apply below_alloc | apply pw_below_drewN | apply below_drew1 | refine below_set ?_ GE408.out) | exact HB.out))) : w.heap.size ≤ gb409)); have n4_ := Aside0.mk ((by rw [hg]; exact (below_size (by repeat (first | (with_reducible first | exact HB.out | apply below_alloc | apply pw_below_drewN | apply below_drew1 | refine below_set ?_ GE408.out) | exact HB.out))) : w.heap.size ≤ gb409)); have n5_ := Aside0.mk ((by rw [hg]; exact Nat.ne_of_lt (blk_lt (g := gb408) (o := .cells #[.int .i64 0, .int .i64 0, .string (⟨#[]⟩ : ByteArray)] 27 (0, 0)) (by (with_reducible repeat (first | refine blk_drewN ?_ _ | refine blk_drew ?_ | refine blk_alloc ?_ _)); exact BK408.out)) : gb408 ≠ gb409)); have n6_ := Aside0.mk ((by rw [hg]; exact Nat.ne_of_gt (blk_lt (g := gb408) (o := .cells #[.int .i64 0, .int .i64 0, .string (⟨#[]⟩ : ByteArray)] 27 (0, 0)) (by (with_reducible repeat (first | refine blk_drewN ?_ _ | refine blk_drew ?_ | refine blk_alloc ?_ _)); exact BK408.out)) : gb409 ≠ gb408)); clear BK408; clear HB; have BK408 := n0_; have HB := n1_; have BK409 := n2_; have GW409 := n3_; have GE409 := n4_; have NB408_409 := n5_; have NB409_408 := n6_; clear n0_ n1_ n2_ n3_ n4_ n5_ n6_; clear hb hbox hg; have hnb74 := NB408_409.out; have hnc74 := NB409_408.out; have hcz75_0 : w73.cell? ⟨gb408, 0, none⟩ = some (.int .i64 0) := (blk_cell BK408.out 0).trans rfl; have hcz75_1 : w73.cell? ⟨gb408, 1, none⟩ = some (.int .i64 0) := (blk_cell BK408.out 1).trans rfl; have hcz75_2 : w73.cell? ⟨gb408, 2, none⟩ = some (.string (⟨#[]⟩ : ByteArray)) := (blk_cell BK408.out 2).trans rfl; have hfz75_0 := blk_frozen BK408.out 0; have hfz75_1 := blk_frozen BK408.out 1; have hfz75_2 := blk_frozen BK408.out 2; have hcz76_0 : w73.cell? ⟨gb409, 0, none⟩ = some (.int .i64 0) := (blk_cell BK409.out 0).trans rfl; have hcz76_1 : w73.cell? ⟨gb409, 1, none⟩ = some (.int .i64 0) := (blk_cell BK409.out 1).trans rfl; have hcz76_2 : w73.cell? ⟨gb409, 2, none⟩ = some (.string (⟨#[]⟩ : ByteArray)) := (blk_cell BK409.out 2).trans rfl; have hfz76_0 := blk_frozen BK409.out 0; have hfz76_1 := blk_frozen BK409.out 1; have hfz76_2 := blk_frozen BK409.out 2) | ((with_reducible refine gate_callee (f := 23) rfl ?_); refine goesL_ (some 16) rfl rfl Try.func23 (by kernel_rfl) rfl #[.agg #[.int .i64 t402, .int .i64 t403, .string t404], .agg #[.int .i64 t405, .int .i64 t406, .string t407]] rfl (by (try simp only [List.map_toArray, List.map_cons, List.map_nil]); first | done | rfl | (simp only [List.length_drop, List.length_take]; rfl)) ?_; (with_reducible refine (impl_ValueOrder.calls k t402 t403 t404 t405 t406 t407 t410 _ A4.out).mono ?_); rintro e w77 ⟨rfl, hb⟩; refine ⟨_, rfl, ?_⟩; have n0_ := Aside0.mk (blk_below (g := gb408) (o := .cells #[.int .i64 t402, .int .i64 t403, .string t404] 27 (0, 0)) (by (with_reducible repeat (first | refine blk_drewN ?_ _ | refine blk_drew ?_ | refine blk_alloc ?_ _)); refine blk_far ?_ NB408_409.out _; (with_reducible repeat (first | refine blk_drewN ?_ _ | refine blk_drew ?_ | refine blk_alloc ?_ _)); refine blk_far ?_ NB408_409.out _; (with_reducible repeat (first | refine blk_drewN ?_ _ | refine blk_drew ?_ | refine blk_alloc ?_ _)); refine blk_far ?_ NB408_409.out _; (with_reducible repeat (first | refine blk_drewN ?_ _ | refine blk_drew ?_ | refine blk_alloc ?_ _)); refine blk_put (cs := #[.int .i64 t402, .int .i64 t403, .string (⟨#[]⟩ : ByteArray)]) ?_ 2 _ rfl; (with_reducible repeat (first | refine blk_drewN ?_ _ | refine blk_drew ?_ | refine blk_alloc ?_ _)); refine blk_put (cs := #[.int .i64 t402, .int .i64 0, .string (⟨#[]⟩ : ByteArray)]) ?_ 1 _ rfl; (with_reducible repeat (first | refine blk_drewN ?_ _ | refine blk_drew ?_ | refine blk_alloc ?_ _)); refine blk_put (cs := #[.int .i64 0, .int .i64 0, .string (⟨#[]⟩ : ByteArray)]) ?_ 0 _ rfl; (with_reducible repeat (first | refine blk_drewN ?_ _ | refine blk_drew ?_ | refine blk_alloc ?_ _)); exact BK408.out) hb); have n1_ := Aside0.mk (blk_below (g := gb409) (o := .cells #[.int .i64 t405, .int .i64 t406, .string t407] 27 (0, 0)) (by (with_reducible repeat (first | refine blk_drewN ?_ _ | refine blk_drew ?_ | refine blk_alloc ?_ _)); refine blk_put (cs := #[.int .i64 t405, .int .i64 t406, .string (⟨#[]⟩ : ByteArray)]) ?_ 2 _ rfl; (with_reducible repeat (first | refine blk_drewN ?_ _ | refine blk_drew ?_ | refine blk_alloc ?_ _)); refine blk_put (cs := #[.int .i64 t405, .int .i64 0, .string (⟨#[]⟩ : ByteArray)]) ?_ 1 _ rfl; (with_reducible repeat (first | refine blk_drewN ?_ _ | refine blk_drew ?_ | refine blk_alloc ?_ _)); refine blk_put (cs := #[.int .i64 0, .int .i64 0, .string (⟨#[]⟩ : ByteArray)]) ?_ 0 _ rfl; (with_reducible repeat (first | refine blk_drewN ?_ _ | refine blk_drew ?_ | refine blk_alloc ?_ _)); refine blk_far ?_ NB409_408.out _; (with_reducible repeat (first | refine blk_drewN ?_ _ | refine blk_drew ?_ | refine blk_alloc ?_ _)); refine blk_far ?_ NB409_408.out _; (with_reducible repeat (first | refine blk_drewN ?_ _ | refine blk_drew ?_ | refine blk_alloc ?_ _)); refine blk_far ?_ NB409_408.out _; (with_reducible repeat (first | refine blk_drewN ?_ _ | refine blk_drew ?_ | refine blk_alloc ?_ _)); exact BK409.out) hb); have n2_ := Aside0.mk (below_step (by repeat (first | (with_reducible first | exact HB.out | apply below_alloc | apply pw_below_drewN | apply below_drew1 | refine below_set ?_ GE408.out | refine below_set ?_ GE409.out) | exact HB.out)) hb); clear BK408; clear BK409; clear HB; have BK408 := n0_; have BK409 := n1_; have HB := n2_; clear n0_ n1_ n2_; (try clear hb); (try clear hb2); (try clear hk); (try clear hi); have hcz78_0 : w77.cell? ⟨gb408, 0, none⟩ = some (.int .i64 t402) := (blk_cell BK408.out 0).trans rfl; have hcz78_1 : w77.cell? ⟨gb408, 1, none⟩ = some (.int .i64 t403) := (blk_cell BK408.out 1).trans rfl; have hcz78_2 : w77.cell? ⟨gb408, 2, none⟩ = some (.string t404) := (blk_cell BK408.out 2).trans rfl; have hfz78_0 := blk_frozen BK408.out 0; have hfz78_1 := blk_frozen BK408.out 1; have hfz78_2 := blk_frozen BK408.out 2; have hcz79_0 : w77.cell? ⟨gb409, 0, none⟩ = some (.int .i64 t405) := (blk_cell BK409.out 0).trans rfl; have hcz79_1 : w77.cell? ⟨gb409, 1, none⟩ = some (.int .i64 t406) := (blk_cell BK409.out 1).trans rfl; have hcz79_2 : w77.cell? ⟨gb409, 2, none⟩ = some (.string t407) := (blk_cell BK409.out 2).trans rfl; have hfz79_0 := blk_frozen BK409.out 0; have hfz79_1 := blk_frozen BK409.out 1; have hfz79_2 := blk_frozen BK409.out 2) | ((with_reducible refine gate_callee (f := 22) rfl ?_); refine goesL_ (some 20) rfl rfl Try.func22 (by kernel_rfl) rfl #[.agg #[.int .i64 t402, .int .i64 t403, .string t404], .agg #[.int .i64 t405, .int .i64 t406, .string t407]] rfl (by (try simp only [List.map_toArray, List.map_cons, List.map_nil]); first | done | rfl | (simp only [List.length_drop, List.length_take]; rfl)) ?_; (with_reducible refine (spec_ValueOrder.calls k t402 t403 t404 t405 t406 t407 t411 _ A5.out).mono ?_); rintro e w80 ⟨rfl, hb⟩; refine ⟨_, rfl, ?_⟩; have n0_ := Aside0.mk (blk_below (g := gb408) (o := .cells #[.int .i64 t402, .int .i64 t403, .string t404] 27 (0, 0)) (by (with_reducible repeat (first | refine blk_drewN ?_ _ | refine blk_drew ?_ | refine blk_alloc ?_ _)); exact BK408.out) hb); have n1_ := Aside0.mk (blk_below (g := gb409) (o := .cells #[.int .i64 t405, .int .i64 t406, .string t407] 27 (0, 0)) (by (with_reducible repeat (first | refine blk_drewN ?_ _ | refine blk_drew ?_ | refine blk_alloc ?_ _)); exact BK409.out) hb); have n2_ := Aside0.mk (below_step (by repeat (first | (with_reducible first | exact HB.out | apply below_alloc | apply pw_below_drewN | apply below_drew1 | refine below_set ?_ GE408.out | refine below_set ?_ GE409.out) | exact HB.out)) hb); clear BK408; clear BK409; clear HB; have BK408 := n0_; have BK409 := n1_; have HB := n2_; clear n0_ n1_ n2_; (try clear hb); (try clear hb2); (try clear hk); (try clear hi); have hcz81_0 : w80.cell? ⟨gb409, 0, none⟩ = some (.int .i64 t405) := (blk_cell BK409.out 0).trans rfl; have hcz81_1 : w80.cell? ⟨gb409, 1, none⟩ = some (.int .i64 t406) := (blk_cell BK409.out 1).trans rfl; have hcz81_2 : w80.cell? ⟨gb409, 2, none⟩ = some (.string t407) := (blk_cell BK409.out 2).trans rfl; have hfz81_0 := blk_frozen BK409.out 0; have hfz81_1 := blk_frozen BK409.out 1; have hfz81_2 := blk_frozen BK409.out 2; have hcz82_0 : w80.cell? ⟨gb408, 0, none⟩ = some (.int .i64 t402) := (blk_cell BK408.out 0).trans rfl; have hcz82_1 : w80.cell? ⟨gb408, 1, none⟩ = some (.int .i64 t403) := (blk_cell BK408.out 1).trans rfl; have hcz82_2 : w80.cell? ⟨gb408, 2, none⟩ = some (.string t404) := (blk_cell BK408.out 2).trans rfl; have hfz82_0 := blk_frozen BK408.out 0; have hfz82_1 := blk_frozen BK408.out 1; have hfz82_2 := blk_frozen BK408.out 2) | ((with_reducible refine gate_callee (f := 23) rfl ?_); refine goesL_ (some 25) rfl rfl Try.func23 (by kernel_rfl) rfl #[.agg #[.int .i64 t405, .int .i64 t406, .string t407], .agg #[.int .i64 t402, .int .i64 t403, .string t404]] rfl (by (try simp only [List.map_toArray, List.map_cons, List.map_nil]); first | done | rfl | (simp only [List.length_drop, List.length_take]; rfl)) ?_; (with_reducible refine (impl_ValueOrder.calls k t405 t406 t407 t402 t403 t404 t412 _ A7.out).mono ?_); rintro e w83 ⟨rfl, hb⟩; refine ⟨_, rfl, ?_⟩; have n0_ := Aside0.mk (blk_below (g := gb408) (o := .cells #[.int .i64 t402, .int .i64 t403, .string t404] 27 (0, 0)) (by (with_reducible repeat (first | refine blk_drewN ?_ _ | refine blk_drew ?_ | refine blk_alloc ?_ _)); exact BK408.out) hb); have n1_ := Aside0.mk (blk_below (g := gb409) (o := .cells #[.int .i64 t405, .int .i64 t406, .string t407] 27 (0, 0)) (by (with_reducible repeat (first | refine blk_drewN ?_ _ | refine blk_drew ?_ | refine blk_alloc ?_ _)); exact BK409.out) hb); have n2_ := Aside0.mk (below_step (by repeat (first | (with_reducible first | exact HB.out | apply below_alloc | apply pw_below_drewN | apply below_drew1 | refine below_set ?_ GE408.out | refine below_set ?_ GE409.out) | exact HB.out)) hb); clear BK408; clear BK409; clear HB; have BK408 := n0_; have BK409 := n1_; have HB := n2_; clear n0_ n1_ n2_; (try clear hb); (try clear hb2); (try clear hk); (try clear hi)))
        go_ret
        exact ⟨by first | rfl | (simp [errW_none, errW_some] <;> rfl) | (simp [*, errW_none, errW_some] <;> rfl), by repeat (first | (with_reducible first | exact HB.out | apply below_alloc | apply pw_below_drewN | apply below_drew1 | refine below_set ?_ GE408.out | refine below_set ?_ GE409.out) | exact HB.out)⟩
    · rw [if_neg c6] at H
      have c6b0 : (t410 == t411) = false := beq_eq_false_iff_ne.mpr c6
      have c6b1 : (t410 != t411) = true := bne_iff_ne.mpr c6
      obtain rfl := Option.some.inj H
      go_enter Try.func12, Try.ntmps12
      go_wp2_with (first | ((with_reducible refine gate_callee (f := 41) rfl ?_); refine goesL_ (some 11) rfl rfl Try.func41 (by kernel_rfl) rfl #[.slice A0 l0.length c0] rfl (by (try simp only [List.map_toArray, List.map_cons, List.map_nil]); first | done | rfl | (simp only [List.length_drop, List.length_take]; rfl)) ?_; (with_reducible refine (spec_DrawValueOrder.calls k _ _ l0 t402 t403 t404 t405 t406 t407 _ ?side1 ?side2 A3.out).mono ?_); (case side1 => repeat (first | exact HR0.out | (with_reducible refine Kd.C_alloc ?_ _) | (with_reducible refine Kd.C_drewN ?_ _) | (with_reducible refine Kd.C_drew ?_))); (case side2 => exact HC0.out); rintro e w84 ⟨rfl, hb⟩; refine ⟨_, rfl, ?_⟩; have n0_ := Aside0.mk (below_step (by repeat (first | (with_reducible first | exact HB.out | apply below_alloc | apply pw_below_drewN | apply below_drew1) | exact HB.out)) hb); clear HB; have HB := n0_; clear n0_; (try clear hb); (try clear hb2); (try clear hk); (try clear hi)) | ((with_reducible refine gate_dst (N := 3) rfl ?_); refine box_event ?hg (N := 3) ?hd (cs := #[.int .i64 0, .int .i64 0, .string (⟨#[]⟩ : ByteArray)]) (t := 27) ?hr ?_; (case hd => rfl); (case hg => rfl); (case hr => first | (go_simp; done) | (go_simp; rfl)); intro gb408 hg w85 hbox hb; have n0_ := Aside0.mk (below_step (by repeat (first | (with_reducible first | exact HB.out | apply below_alloc | apply pw_below_drewN | apply below_drew1) | exact HB.out)) hb); have n1_ := Aside0.mk (hbox); have n2_ := Aside0.mk ((by rw [hg]; exact (below_size (by repeat (first | (with_reducible first | exact HB.out | apply below_alloc | apply pw_below_drewN | apply below_drew1) | exact HB.out))) : w.heap.size ≤ gb408)); have n3_ := Aside0.mk ((by rw [hg]; exact (below_size (by repeat (first | (with_reducible first | exact HB.out | apply below_alloc | apply pw_below_drewN | apply below_drew1) | exact HB.out))) : w.heap.size ≤ gb408)); clear HB; have HB := n0_; have BK408 := n1_; have GW408 := n2_; have GE408 := n3_; clear n0_ n1_ n2_ n3_; clear hb hbox hg) | ((with_reducible refine gate_dst (N := 4) rfl ?_); refine box_event ?hg (N := 4) ?hd (cs := #[.int .i64 0, .int .i64 0, .string (⟨#[]⟩ : ByteArray)]) (t := 27) ?hr ?_; (case hd => rfl); (case hg => rfl); (case hr => first | (go_simp; done) | (go_simp; rfl)); intro gb409 hg w86 hbox hb; have n0_ := Aside0.mk (blk_below (g := gb408) (o := .cells #[.int .i64 0, .int .i64 0, .string (⟨#[]⟩ : ByteArray)] 27 (0, 0)) (by (with_reducible repeat (first | refine blk_drewN ?_ _ | refine blk_drew ?_ | refine blk_alloc ?_ _)); exact BK408.out) hb); have n1_ := Aside0.mk (below_step (by repeat (first | (with_reducible first | exact HB.out | apply below_alloc | apply pw_below_drewN | apply below_drew1 | refine below_set ?_ GE408.out) | exact HB.out)) hb); have n2_ := Aside0.mk (hbox); have n3_ := Aside0.mk ((by rw [hg]; exact (below_size (by repeat (first | (with_reducible first | exact HB.out | apply below_alloc | apply pw_below_drewN | apply below_drew1 | refine below_set ?_ GE408.out) | exact HB.out))) : w.heap.size ≤ gb409)); have n4_ := Aside0.mk ((by rw [hg]; exact (below_size (by repeat (first | (with_reducible first | exact HB.out | apply below_alloc | apply pw_below_drewN | apply below_drew1 | refine below_set ?_ GE408.out) | exact HB.out))) : w.heap.size ≤ gb409)); have n5_ := Aside0.mk ((by rw [hg]; exact Nat.ne_of_lt (blk_lt (g := gb408) (o := .cells #[.int .i64 0, .int .i64 0, .string (⟨#[]⟩ : ByteArray)] 27 (0, 0)) (by (with_reducible repeat (first | refine blk_drewN ?_ _ | refine blk_drew ?_ | refine blk_alloc ?_ _)); exact BK408.out)) : gb408 ≠ gb409)); have n6_ := Aside0.mk ((by rw [hg]; exact Nat.ne_of_gt (blk_lt (g := gb408) (o := .cells #[.int .i64 0, .int .i64 0, .string (⟨#[]⟩ : ByteArray)] 27 (0, 0)) (by (with_reducible repeat (first | refine blk_drewN ?_ _ | refine blk_drew ?_ | refine blk_alloc ?_ _)); exact BK408.out)) : gb409 ≠ gb408)); clear BK408; clear HB; have BK408 := n0_; have HB := n1_; have BK409 := n2_; have GW409 := n3_; have GE409 := n4_; have NB408_409 := n5_; have NB409_408 := n6_; clear n0_ n1_ n2_ n3_ n4_ n5_ n6_; clear hb hbox hg; have hnb87 := NB408_409.out; have hnc87 := NB409_408.out; have hcz88_0 : w86.cell? ⟨gb408, 0, none⟩ = some (.int .i64 0) := (blk_cell BK408.out 0).trans rfl; have hcz88_1 : w86.cell? ⟨gb408, 1, none⟩ = some (.int .i64 0) := (blk_cell BK408.out 1).trans rfl; have hcz88_2 : w86.cell? ⟨gb408, 2, none⟩ = some (.string (⟨#[]⟩ : ByteArray)) := (blk_cell BK408.out 2).trans rfl; have hfz88_0 := blk_frozen BK408.out 0; have hfz88_1 := blk_frozen BK408.out 1; have hfz88_2 := blk_frozen BK408.out 2; have hcz89_0 : w86.cell? ⟨gb409, 0, none⟩ = some (.int .i64 0) := (blk_cell BK409.out 0).trans rfl; have hcz89_1 : w86.cell? ⟨gb409, 1, none⟩ = some (.int .i64 0) := (blk_cell BK409.out 1).trans rfl; have hcz89_2 : w86.cell? ⟨gb409, 2, none⟩ = some (.string (⟨#[]⟩ : ByteArray)) := (blk_cell BK409.out 2).trans rfl; have hfz89_0 := blk_frozen BK409.out 0; have hfz89_1 := blk_frozen BK409.out 1; have hfz89_2 := blk_frozen BK409.out 2) | ((with_reducible refine gate_callee (f := 23) rfl ?_); refine goesL_ (some 16) rfl rfl Try.func23 (by kernel_rfl) rfl #[.agg #[.int .i64 t402, .int .i64 t403, .string t404], .agg #[.int .i64 t405, .int .i64 t406, .string t407]] rfl (by (try simp only [List.map_toArray, List.map_cons, List.map_nil]); first | done | rfl | (simp only [List.length_drop, List.length_take]; rfl)) ?_; (with_reducible refine (impl_ValueOrder.calls k t402 t403 t404 t405 t406 t407 t410 _ A4.out).mono ?_); rintro e w90 ⟨rfl, hb⟩; refine ⟨_, rfl, ?_⟩; have n0_ := Aside0.mk (blk_below (g := gb408) (o := .cells #[.int .i64 t402, .int .i64 t403, .string t404] 27 (0, 0)) (by (with_reducible repeat (first | refine blk_drewN ?_ _ | refine blk_drew ?_ | refine blk_alloc ?_ _)); refine blk_far ?_ NB408_409.out _; (with_reducible repeat (first | refine blk_drewN ?_ _ | refine blk_drew ?_ | refine blk_alloc ?_ _)); refine blk_far ?_ NB408_409.out _; (with_reducible repeat (first | refine blk_drewN ?_ _ | refine blk_drew ?_ | refine blk_alloc ?_ _)); refine blk_far ?_ NB408_409.out _; (with_reducible repeat (first | refine blk_drewN ?_ _ | refine blk_drew ?_ | refine blk_alloc ?_ _)); refine blk_put (cs := #[.int .i64 t402, .int .i64 t403, .string (⟨#[]⟩ : ByteArray)]) ?_ 2 _ rfl; (with_reducible repeat (first | refine blk_drewN ?_ _ | refine blk_drew ?_ | refine blk_alloc ?_ _)); refine blk_put (cs := #[.int .i64 t402, .int .i64 0, .string (⟨#[]⟩ : ByteArray)]) ?_ 1 _ rfl; (with_reducible repeat (first | refine blk_drewN ?_ _ | refine blk_drew ?_ | refine blk_alloc ?_ _)); refine blk_put (cs := #[.int .i64 0, .int .i64 0, .string (⟨#[]⟩ : ByteArray)]) ?_ 0 _ rfl; (with_reducible repeat (first | refine blk_drewN ?_ _ | refine blk_drew ?_ | refine blk_alloc ?_ _)); exact BK408.out) hb); have n1_ := Aside0.mk (blk_below (g := gb409) (o := .cells #[.int .i64 t405, .int .i64 t406, .string t407] 27 (0, 0)) (by (with_reducible repeat (first | refine blk_drewN ?_ _ | refine blk_drew ?_ | refine blk_alloc ?_ _)); refine blk_put (cs := #[.int .i64 t405, .int .i64 t406, .string (⟨#[]⟩ : ByteArray)]) ?_ 2 _ rfl; (with_reducible repeat (first | refine blk_drewN ?_ _ | refine blk_drew ?_ | refine blk_alloc ?_ _)); refine blk_put (cs := #[.int .i64 t405, .int .i64 0, .string (⟨#[]⟩ : ByteArray)]) ?_ 1 _ rfl; (with_reducible repeat (first | refine blk_drewN ?_ _ | refine blk_drew ?_ | refine blk_alloc ?_ _)); refine blk_put (cs := #[.int .i64 0, .int .i64 0, .string (⟨#[]⟩ : ByteArray)]) ?_ 0 _ rfl; (with_reducible repeat (first | refine blk_drewN ?_ _ | refine blk_drew ?_ | refine blk_alloc ?_ _)); refine blk_far ?_ NB409_408.out _; (with_reducible repeat (first | refine blk_drewN ?_ _ | refine blk_drew ?_ | refine blk_alloc ?_ _)); refine blk_far ?_ NB409_408.out _; (with_reducible repeat (first | refine blk_drewN ?_ _ | refine blk_drew ?_ | refine blk_alloc ?_ _)); refine blk_far ?_ NB409_408.out _; (with_reducible repeat (first | refine blk_drewN ?_ _ | refine blk_drew ?_ | refine blk_alloc ?_ _)); exact BK409.out) hb); have n2_ := Aside0.mk (below_step (by repeat (first | (with_reducible first | exact HB.out | apply below_alloc | apply pw_below_drewN | apply below_drew1 | refine below_set ?_ GE408.out | refine below_set ?_ GE409.out) | exact HB.out)) hb); clear BK408; clear BK409; clear HB; have BK408 := n0_; have BK409 := n1_; have HB := n2_; clear n0_ n1_ n2_; (try clear hb); (try clear hb2); (try clear hk); (try clear hi); have hcz91_0 : w90.cell? ⟨gb408, 0, none⟩ = some (.int .i64 t402) := (blk_cell BK408.out 0).trans rfl; have hcz91_1 : w90.cell? ⟨gb408, 1, none⟩ = some (.int .i64 t403) := (blk_cell BK408.out 1).trans rfl; have hcz91_2 : w90.cell? ⟨gb408, 2, none⟩ = some (.string t404) := (blk_cell BK408.out 2).trans rfl; have hfz91_0 := blk_frozen BK408.out 0; have hfz91_1 := blk_frozen BK408.out 1; have hfz91_2 := blk_frozen BK408.out 2; have hcz92_0 : w90.cell? ⟨gb409, 0, none⟩ = some (.int .i64 t405) := (blk_cell BK409.out 0).trans rfl; have hcz92_1 : w90.cell? ⟨gb409, 1, none⟩ = some (.int .i64 t406) := (blk_cell BK409.out 1).trans rfl; have hcz92_2 : w90.cell? ⟨gb409, 2, none⟩ = some (.string t407) := (blk_cell BK409.out 2).trans rfl; have hfz92_0 := blk_frozen BK409.out 0; have hfz92_1 := blk_frozen BK409.out 1; have hfz92_2 := blk_frozen BK409.out 2) | ((with_reducible refine gate_callee (f := 22) rfl ?_); refine goesL_ (some 20) rfl rfl Try.func22 (by kernel_rfl) rfl #[.agg #[.int .i64 t402, .int .i64 t403, .string t404], .agg #[.int .i64 t405, .int .i64 t406, .string t407]] rfl (by (try simp only [List.map_toArray, List.map_cons, List.map_nil]); first | done | rfl | (simp only [List.length_drop, List.length_take]; rfl)) ?_; (with_reducible refine (spec_ValueOrder.calls k t402 t403 t404 t405 t406 t407 t411 _ A5.out).mono ?_); rintro e w93 ⟨rfl, hb⟩; refine ⟨_, rfl, ?_⟩; have n0_ := Aside0.mk (blk_below (g := gb408) (o := .cells #[.int .i64 t402, .int .i64 t403, .string t404] 27 (0, 0)) (by (with_reducible repeat (first | refine blk_drewN ?_ _ | refine blk_drew ?_ | refine blk_alloc ?_ _)); exact BK408.out) hb); have n1_ := Aside0.mk (blk_below (g := gb409) (o := .cells #[.int .i64 t405, .int .i64 t406, .string t407] 27 (0, 0)) (by (with_reducible repeat (first | refine blk_drewN ?_ _ | refine blk_drew ?_ | refine blk_alloc ?_ _)); exact BK409.out) hb); have n2_ := Aside0.mk (below_step (by repeat (first | (with_reducible first | exact HB.out | apply below_alloc | apply pw_below_drewN | apply below_drew1 | refine below_set ?_ GE408.out | refine below_set ?_ GE409.out) | exact HB.out)) hb); clear BK408; clear BK409; clear HB; have BK408 := n0_; have BK409 := n1_; have HB := n2_; clear n0_ n1_ n2_; (try clear hb); (try clear hb2); (try clear hk); (try clear hi)))
      go_ret
      exact ⟨by first | rfl | (simp [errW_none, errW_some] <;> rfl) | (simp [*, errW_none, errW_some] <;> rfl), by repeat (first | (with_reducible first | exact HB.out | apply below_alloc | apply pw_below_drewN | apply below_drew1 | refine below_set ?_ GE408.out | refine below_set ?_ GE409.out) | exact HB.out)⟩

/-- THE ONE PURE STATEMENT of laws_FnValueOrder. -/
def laws_FnValueOrder.Pure : Prop := ∀ (l0 : List Int), ((l0.length ≤ maxLen ∧ ∀ y2_ ∈ l0, (Lit.int .u8 y2_).wf = true)) → ∃ k, laws_FnValueOrder.f k l0 = some true

end Go.Proofs.Ytdgikheibcmcjaa.X
