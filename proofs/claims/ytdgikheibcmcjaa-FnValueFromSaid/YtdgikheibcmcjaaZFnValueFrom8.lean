/- Plain functions for the Go functions of this seat, and proofs that each call answers as its plain function does; made by this session's program over the kit's printer. -/
import Derived.Test.YtdgikheibcmcjaaUX0
import Derived.Test.YtdgikheibcmcjaaZFnValueFrom7
namespace Go.Proofs.Ytdgikheibcmcjaa.X
open Go.RowKit Go.Proofs.YtdgikheibcmcjaaV.PrintWords Go.Proofs.YtdgikheibcmcjaaV.PrintLast Go.Proofs.YtdgikheibcmcjaaV.PrintMore
attribute [local go_sem] max2_int min2_int max_two min_two max_three min_three max_four min_four   -- for this text's walks alone
set_option linter.unusedVariables false
set_option linter.unusedSimpArgs false

open Go.Proofs.YtdgikheibcmcjaaV.PrintWords renaming below_alloc → zU, pw_below_drewN → zV, below_drew1 → zW, blk_drewN → zX, blk_drew → zY, blk_alloc → zZ, blk_frozen → zF, blk_cell → zK, below_step → zG, below_set → zH, below_size → zI, blk_below → zJ
open Go.Proofs.YtdgikheibcmcjaaV.PrintWords.Kd renaming R_alloc → zR, R_drewN → zS, R_drew → zT, C_alloc → zQ, C_drewN → zO, C_drew → zP
section
attribute [local go_sem high] eqA27

/-! ### laws_FnValueFrom: function 13 -/
def laws_FnValueFrom.j0 : Nat → List Int → Int → Bool → Int → Int → ByteArray → Option (Bool)
 | 0, _, _, _, _, _, _ => none
 | k + 1, x3, x5, x32, x450000, x450001, x450002 => if x32 = true then (some false) else (if x5 = 0 then ((laws_alive.f).bind fun t455 => (some t455)) else ((some (([] : List Int) : List Int)).bind fun y456 => (if 0 ≤ (wrap64 (x5 - 1)) then (if (wrap64 (x5 - 1)) ≤ (x3.length : Int) then ((some (x3.take ((wrap64 (x5 - 1)) : Int).toNat : List Int)).bind fun y459 => (if y456.length + y459.length < 140737488355328 then ((impl_ValueFrom.f k (y456 ++ y459)).bind fun bt466 => ((impl_ValueBytes.f x450000 x450001 x450002).bind fun t471 => (if 0 ≤ x5 then (if x5 ≤ (x3.length : Int) then (if (strOfNums t471).toList = (strOfNums (x3.take (x5 : Int).toNat)).toList then (some (bt466.2.2.2 == 0)) else (some false)) else (none)) else (none)))) else (none))) else (none)) else (none))))
def laws_FnValueFrom.f (k : Nat) (l0 : List Int) : Option (Bool) := if (l0.length : Int) > 1048576 then (some true) else ((spec_DrawValueFrom.f k l0).bind fun t442 => ((impl_ValueFrom.f k t442).bind fun bt445 => ((spec_ValueFrom.f k t442).bind fun bt450 => (if (!(bt445.1 == bt450.1) || (!(bt445.2.1 == bt450.2.1) || (!(bt445.2.2.1.toList == bt450.2.2.1.toList)))) = true then (laws_FnValueFrom.j0 k t442 bt445.2.2.2 true bt445.1 bt445.2.1 bt445.2.2.1) else (laws_FnValueFrom.j0 k t442 bt445.2.2.2 (bt445.2.2.2 != bt450.2.2.2) bt445.1 bt445.2.1 bt445.2.2.1)))))
theorem laws_FnValueFrom.mono_l : ∀ k, (∀ y0 y1 y2 y3 y4 y5, LeO (laws_FnValueFrom.j0 k y0 y1 y2 y3 y4 y5) (laws_FnValueFrom.j0 (k + 1) y0 y1 y2 y3 y4 y5))
 | 0 => fun _ _ _ _ _ _ r h => by simp [laws_FnValueFrom.j0] at h
 | k + 1 => by
  have ih0 := laws_FnValueFrom.mono_l k
  ·
   intro y0 y1 y2 y3 y4 y5
   unfold laws_FnValueFrom.j0
   repeat' first
   | (with_reducible exact ih0 _ _ _ _ _ _)
   | (with_reducible exact impl_ValueFrom.mono _ _)
   | (with_reducible exact spec_DrawValueFrom.mono _ _)
   | (with_reducible exact spec_ValueFrom.mono _ _)
   | (with_reducible exact LeO.refl _)
   | (with_reducible exact LeO.none _)
   | (with_reducible refine LeO.ite ?_ ?_)
   | (with_reducible refine LeO.bind ?_ (fun _ => ?_))
   | exact ih0 _ _ _ _ _ _
   | exact impl_ValueFrom.mono _ _
   | exact spec_DrawValueFrom.mono _ _
   | exact spec_ValueFrom.mono _ _
   | exact LeO.none _
   | refine LeO.ite ?_ ?_
   | refine LeO.bind ?_ (fun _ => ?_)
theorem laws_FnValueFrom.mono : ∀ a0 k, LeO (laws_FnValueFrom.f k a0) (laws_FnValueFrom.f (k + 1) a0) := by
 intro a0 k
 have ih0 := laws_FnValueFrom.mono_l k
 unfold laws_FnValueFrom.f
 repeat' first
   | (with_reducible exact ih0 _ _ _ _ _ _)
   | (with_reducible exact impl_ValueFrom.mono _ _)
   | (with_reducible exact spec_DrawValueFrom.mono _ _)
   | (with_reducible exact spec_ValueFrom.mono _ _)
   | (with_reducible exact LeO.refl _)
   | (with_reducible exact LeO.none _)
   | (with_reducible refine LeO.ite ?_ ?_)
   | (with_reducible refine LeO.bind ?_ (fun _ => ?_))
   | exact ih0 _ _ _ _ _ _
   | exact impl_ValueFrom.mono _ _
   | exact spec_DrawValueFrom.mono _ _
   | exact spec_ValueFrom.mono _ _
   | exact LeO.none _
   | refine LeO.ite ?_ ?_
   | refine LeO.bind ?_ (fun _ => ?_)
def laws_FnValueFrom.T11 : Bool × List (List Nat × List Nat) := (true, [([], []), ([0], [0]), ([1], [1]), ([], []), ([], []), ([3, 4], [3, 4]), ([5], [5]), ([2, 6], [2, 6]), ([7, 1], [7]), ([8], [8]), ([9, 8], [8, 9]), ([8, 10], [8, 10]), ([11, 8, 0, 1, 2, 3, 4, 5, 6, 7, 8, 9, 10, 11], [11])])
def laws_FnValueFrom.B11 : List Nat := [0, 1, 3, 0, 0, 24, 56, 127, 255, 511, 1023, 2047, 4095]
theorem laws_FnValueFrom.tab11 : rtab .any (opsOf Try.f13 11) = laws_FnValueFrom.T11 := by kernel_rfl
theorem laws_FnValueFrom.bits11 : waitsOk laws_FnValueFrom.T11.2 laws_FnValueFrom.B11 = true := by kernel_rfl
set_option maxHeartbeats 8000000 in
set_option maxRecDepth 100000 in
theorem laws_FnValueFrom.calls (k : Nat) (A0 : Option Addr) (c0 : Nat) (l0 : List Int) (r : Bool) (w : World) (hr0 : Kd.C (Kd.int .u8) w A0 l0.length l0) (hc0 : l0.length ≤ c0) (h : laws_FnValueFrom.f k l0 = some r) :
  Calls Try.prog 13 #[.slice A0 l0.length c0] w fun e w' => e = .returned (.bool r) ∧ Below w.heap.size w w' := by
 have hu27 := Try.underlying27
 have HR0 := zM hr0
 have HC0 := zM hc0
 clear hr0 hc0
 have HB := zM (Below.refl w.heap.size w)
 have H : (if (l0.length : Int) > 1048576 then (some true) else ((spec_DrawValueFrom.f k l0).bind fun t442 => ((impl_ValueFrom.f k t442).bind fun bt445 => ((spec_ValueFrom.f k t442).bind fun bt450 => (if (!(bt445.1 == bt450.1) || (!(bt445.2.1 == bt450.2.1) || (!(bt445.2.2.1.toList == bt450.2.2.1.toList)))) = true then (laws_FnValueFrom.j0 k t442 bt445.2.2.2 true bt445.1 bt445.2.1 bt445.2.2.1) else (laws_FnValueFrom.j0 k t442 bt445.2.2.2 (bt445.2.2.2 != bt450.2.2.2) bt445.1 bt445.2.1 bt445.2.2.1)))))) = some r := h
 clear h
 by_cases c2 : (l0.length : Int) > 1048576
 ·
  rw [if_pos c2] at H
  have c2b0 : decide (1048576 < (l0.length : Int)) = true := decide_eq_true c2
  have c2b1 : decide (1048576 < l0.length) = true := decide_eq_true (by omega)
  clear c2
  obtain rfl := Option.some.inj H
  go_enter Try.func13, Try.ntmps13
  go_wp2
  go_ret
  exact ⟨by first | rfl | (simp [errW_none, errW_some] <;> rfl) | (simp [*, errW_none, errW_some] <;> rfl), by repeat (first | (with_reducible first | exact HB.out | apply zU | apply zV | apply zW) | exact HB.out)⟩
 ·
  rw [if_neg c2] at H
  have c2b0 : decide (1048576 < (l0.length : Int)) = false := decide_eq_false c2
  have c2b1 : decide (1048576 < l0.length) = false := decide_eq_false (by omega)
  clear c2
  replace H := Option.bind_eq_some_iff.mp H
  obtain ⟨t442, A30, H⟩ := H
  replace H : ((impl_ValueFrom.f k t442).bind fun bt445 => ((spec_ValueFrom.f k t442).bind fun bt450 => (if (!(bt445.1 == bt450.1) || (!(bt445.2.1 == bt450.2.1) || (!(bt445.2.2.1.toList == bt450.2.2.1.toList)))) = true then (laws_FnValueFrom.j0 k t442 bt445.2.2.2 true bt445.1 bt445.2.1 bt445.2.2.1) else (laws_FnValueFrom.j0 k t442 bt445.2.2.2 (bt445.2.2.2 != bt450.2.2.2) bt445.1 bt445.2.1 bt445.2.2.1)))) = some r := H
  have A3 := zM A30
  clear A30
  replace H := Option.bind_eq_some_iff.mp H
  obtain ⟨⟨t445, t446, t447, t448⟩, A40, H⟩ := H
  replace H : ((spec_ValueFrom.f k t442).bind fun bt450 => (if (!(t445 == bt450.1) || (!(t446 == bt450.2.1) || (!(t447.toList == bt450.2.2.1.toList)))) = true then (laws_FnValueFrom.j0 k t442 t448 true t445 t446 t447) else (laws_FnValueFrom.j0 k t442 t448 (t448 != bt450.2.2.2) t445 t446 t447))) = some r := H
  have A4 := zM A40
  clear A40
  replace H := Option.bind_eq_some_iff.mp H
  obtain ⟨⟨t450, t451, t452, t453⟩, A50, H⟩ := H
  replace H : (if (!(t445 == t450) || (!(t446 == t451) || (!(t447.toList == t452.toList)))) = true then (laws_FnValueFrom.j0 k t442 t448 true t445 t446 t447) else (laws_FnValueFrom.j0 k t442 t448 (t448 != t453) t445 t446 t447)) = some r := H
  have A5 := zM A50
  clear A50
  have HC6 := zM H
  clear H
  go_enter Try.func13, Try.ntmps13
  go_upto_region 6 with (first | ((with_reducible refine gate_callee (f := 42) rfl ?_); refine goesL_ (some 14) rfl rfl Try.func42 (by kernel_rfl) rfl #[.slice A0 l0.length c0] rfl (by (try simp only [List.map_toArray, List.map_cons, List.map_nil]); first | done | rfl | (simp only [List.length_drop, List.length_take]; rfl)) ?_; (with_reducible refine (spec_DrawValueFrom.calls k _ _ l0 t442 _ ?side1 ?side2 A3.out).mono ?_); (case side1 => repeat (first | exact HR0.out | (with_reducible refine zQ ?_ _) | (with_reducible refine zO ?_ _) | (with_reducible refine zP ?_))); (case side2 => exact HC0.out); rintro e w7 ⟨v443, rfl, ho0, hb⟩; refine ⟨_, rfl, ?_⟩; have n0_ := zM (Kd.R_lower ho0 (zI (by repeat (first | (with_reducible first | exact HB.out | apply zU | apply zV | apply zW) | exact HB.out)))); have n1_ := zM (zG (by repeat (first | (with_reducible first | exact HB.out | apply zU | apply zV | apply zW) | exact HB.out)) hb); clear HB; have HO444 := n0_; have HB := n1_; clear n0_ n1_; (try clear hb); (try clear hb2); (try clear hk); (try clear hi); (try clear ho0); obtain ⟨Ao8, co8, eo8⟩ := Kd.R_slice HO444.out; subst eo8) | ((with_reducible refine gate_callee (f := 26) rfl ?_); refine goesL_ (some 17) rfl rfl Try.func26 (by kernel_rfl) rfl #[.slice Ao8 t442.length co8] rfl (by (try simp only [List.map_toArray, List.map_cons, List.map_nil]); first | done | rfl | (simp only [List.length_drop, List.length_take]; rfl)) ?_; (with_reducible refine (impl_ValueFrom.calls k _ _ t442 t445 t446 t447 t448 _ ?side1 ?side2 A4.out).mono ?_); (case side1 => repeat (first | exact (Kd.R_reads' HO444.out).2.2 | (with_reducible refine zQ ?_ _) | (with_reducible refine zO ?_ _) | (with_reducible refine zP ?_))); (case side2 => exact (Kd.R_reads' HO444.out).2.1); rintro e w9 ⟨rfl, hb⟩; refine ⟨_, rfl, ?_⟩; have n0_ := zM (Kd.R_below (by (with_reducible repeat (first | apply zR | apply zS | apply zT)); exact HO444.out) hb); have n1_ := zM (zG (by repeat (first | (with_reducible first | exact HB.out | apply zU | apply zV | apply zW) | exact HB.out)) hb); clear HO444; clear HB; have HO444 := n0_; have HB := n1_; clear n0_ n1_; (try clear hb); (try clear hb2); (try clear hk); (try clear hi)) | ((with_reducible refine gate_dst (N := 4) rfl ?_); refine box_event ?hg (N := 4) ?hd (cs := #[.int .i64 0, .int .i64 0, .string (⟨#[]⟩ : ByteArray)]) (t := 27) ?hr ?_; (case hd => rfl); (case hg => rfl); (case hr => first | (go_simp; done) | (go_simp; rfl)); intro gb449 hg w10 hbox hb; have n0_ := zM (Kd.R_below (by (with_reducible repeat (first | apply zR | apply zS | apply zT)); exact HO444.out) hb); have n1_ := zM (zG (by repeat (first | (with_reducible first | exact HB.out | apply zU | apply zV | apply zW) | exact HB.out)) hb); have n2_ := zM (hbox); have n3_ := zM ((by rw [hg]; exact (zI (by repeat (first | (with_reducible first | exact HB.out | apply zU | apply zV | apply zW) | exact HB.out))) : w.heap.size ≤ gb449)); have n4_ := zM ((by rw [hg]; exact (zI (by repeat (first | (with_reducible first | exact HB.out | apply zU | apply zV | apply zW) | exact HB.out))) : w.heap.size ≤ gb449)); clear HO444; clear HB; have HO444 := n0_; have HB := n1_; have BK449 := n2_; have GW449 := n3_; have GE449 := n4_; clear n0_ n1_ n2_ n3_ n4_; clear hb hbox hg; have hcz11_0 : w10.cell? ⟨gb449, 0, none⟩ = some (.int .i64 0) := (zK BK449.out 0).trans rfl; have hcz11_1 : w10.cell? ⟨gb449, 1, none⟩ = some (.int .i64 0) := (zK BK449.out 1).trans rfl; have hcz11_2 : w10.cell? ⟨gb449, 2, none⟩ = some (.string (⟨#[]⟩ : ByteArray)) := (zK BK449.out 2).trans rfl; have hfz11_0 := zF BK449.out 0; have hfz11_1 := zF BK449.out 1; have hfz11_2 := zF BK449.out 2) | ((with_reducible refine gate_callee (f := 24) rfl ?_); refine goesL_ (some 22) rfl rfl Try.func24 (by kernel_rfl) rfl #[.slice Ao8 t442.length co8] rfl (by (try simp only [List.map_toArray, List.map_cons, List.map_nil]); first | done | rfl | (simp only [List.length_drop, List.length_take]; rfl)) ?_; (with_reducible refine (spec_ValueFrom.calls k _ _ t442 t450 t451 t452 t453 _ ?side1 ?side2 A5.out).mono ?_); (case side1 => refine (Kd.R_reads' (e := 5) (base := w.heap.size) (ok := fun k_ => True) (n := t442.length) (c := co8) ?_).2.2; exact (by (with_reducible repeat (first | apply zR | apply zS | apply zT)); exact (Kd.R_mono (Kd.R_far (p := ⟨gb449, 2, none⟩) (Kd.R_far (p := ⟨gb449, 1, none⟩) (Kd.R_far (p := ⟨gb449, 0, none⟩) (Kd.R_types HO444.out BK449.out (by decide)) (fun _ hk => hk.2) (.int .i64 t445)) (fun _ hk => hk.2) (.int .i64 t446)) (fun _ hk => hk.2) (.string t447)) (fun _ h_ => h_.1)))); (case side2 => exact (Kd.R_reads' HO444.out).2.1); rintro e w12 ⟨rfl, hb⟩; refine ⟨_, rfl, ?_⟩; have n0_ := zM (Kd.R_below (by (with_reducible repeat (first | apply zR | apply zS | apply zT)); exact (Kd.R_mono (Kd.R_far (p := ⟨gb449, 2, none⟩) (Kd.R_far (p := ⟨gb449, 1, none⟩) (Kd.R_far (p := ⟨gb449, 0, none⟩) (Kd.R_types HO444.out BK449.out (by decide)) (fun _ hk => hk.2) (.int .i64 t445)) (fun _ hk => hk.2) (.int .i64 t446)) (fun _ hk => hk.2) (.string t447)) (fun _ h_ => h_.1))) hb); have n1_ := zM (zJ (g := gb449) (o := .cells #[.int .i64 t445, .int .i64 t446, .string t447] 27 (0, 0)) (by (with_reducible repeat (first | refine zX ?_ _ | refine zY ?_ | refine zZ ?_ _)); refine blk_put (cs := #[.int .i64 t445, .int .i64 t446, .string (⟨#[]⟩ : ByteArray)]) ?_ 2 _ rfl; (with_reducible repeat (first | refine zX ?_ _ | refine zY ?_ | refine zZ ?_ _)); refine blk_put (cs := #[.int .i64 t445, .int .i64 0, .string (⟨#[]⟩ : ByteArray)]) ?_ 1 _ rfl; (with_reducible repeat (first | refine zX ?_ _ | refine zY ?_ | refine zZ ?_ _)); refine blk_put (cs := #[.int .i64 0, .int .i64 0, .string (⟨#[]⟩ : ByteArray)]) ?_ 0 _ rfl; (with_reducible repeat (first | refine zX ?_ _ | refine zY ?_ | refine zZ ?_ _)); exact BK449.out) hb); have n2_ := zM (zG (by repeat (first | (with_reducible first | exact HB.out | apply zU | apply zV | apply zW | refine zH ?_ GE449.out) | exact HB.out)) hb); clear HO444; clear BK449; clear HB; have HO444 := n0_; have BK449 := n1_; have HB := n2_; clear n0_ n1_ n2_; (try clear hb); (try clear hb2); (try clear hk); (try clear hi)) | ((with_reducible refine gate_dst (N := 6) rfl ?_); refine box_event ?hg (N := 6) ?hd (cs := #[.int .i64 0, .int .i64 0, .string (⟨#[]⟩ : ByteArray)]) (t := 27) ?hr ?_; (case hd => rfl); (case hg => rfl); (case hr => first | (go_simp; done) | (go_simp; rfl)); intro gb454 hg w13 hbox hb; have n0_ := zM (Kd.R_below (by (with_reducible repeat (first | apply zR | apply zS | apply zT)); exact HO444.out) hb); have n1_ := zM (zJ (g := gb449) (o := .cells #[.int .i64 t445, .int .i64 t446, .string t447] 27 (0, 0)) (by (with_reducible repeat (first | refine zX ?_ _ | refine zY ?_ | refine zZ ?_ _)); exact BK449.out) hb); have n2_ := zM (zG (by repeat (first | (with_reducible first | exact HB.out | apply zU | apply zV | apply zW | refine zH ?_ GE449.out) | exact HB.out)) hb); have n3_ := zM (hbox); have n4_ := zM ((by rw [hg]; exact (zI (by repeat (first | (with_reducible first | exact HB.out | apply zU | apply zV | apply zW | refine zH ?_ GE449.out) | exact HB.out))) : w.heap.size ≤ gb454)); have n5_ := zM ((by rw [hg]; exact (zI (by repeat (first | (with_reducible first | exact HB.out | apply zU | apply zV | apply zW | refine zH ?_ GE449.out) | exact HB.out))) : w.heap.size ≤ gb454)); have n6_ := zM ((by rw [hg]; exact Nat.ne_of_lt (blk_lt (g := gb449) (o := .cells #[.int .i64 t445, .int .i64 t446, .string t447] 27 (0, 0)) (by (with_reducible repeat (first | refine zX ?_ _ | refine zY ?_ | refine zZ ?_ _)); exact BK449.out)) : gb449 ≠ gb454)); have n7_ := zM ((by rw [hg]; exact Nat.ne_of_gt (blk_lt (g := gb449) (o := .cells #[.int .i64 t445, .int .i64 t446, .string t447] 27 (0, 0)) (by (with_reducible repeat (first | refine zX ?_ _ | refine zY ?_ | refine zZ ?_ _)); exact BK449.out)) : gb454 ≠ gb449)); clear HO444; clear BK449; clear HB; have HO444 := n0_; have BK449 := n1_; have HB := n2_; have BK454 := n3_; have GW454 := n4_; have GE454 := n5_; have NB449_454 := n6_; have NB454_449 := n7_; clear n0_ n1_ n2_ n3_ n4_ n5_ n6_ n7_; clear hb hbox hg; have hnb14 := NB454_449.out; have hnc14 := NB449_454.out; have hcz15_0 : w13.cell? ⟨gb454, 0, none⟩ = some (.int .i64 0) := (zK BK454.out 0).trans rfl; have hcz15_1 : w13.cell? ⟨gb454, 1, none⟩ = some (.int .i64 0) := (zK BK454.out 1).trans rfl; have hcz15_2 : w13.cell? ⟨gb454, 2, none⟩ = some (.string (⟨#[]⟩ : ByteArray)) := (zK BK454.out 2).trans rfl; have hfz15_0 := zF BK454.out 0; have hfz15_1 := zF BK454.out 1; have hfz15_2 := zF BK454.out 2))
  (try simp only [Act.put, zA, zB, zC])
  go_cut [32] (fun v32 wc => ∃ (kq : Nat) (x32_5 : Bool), v32 = .bool x32_5 ∧ Aside0 (laws_FnValueFrom.j0 kq t442 t448 x32_5 t445 t446 t447 = some r) ∧ Aside0 (kq ≤ k) ∧ Aside0 (Kd.R (Kd.int .u8) 5 wc w.heap.size (fun _ => True) (.slice Ao8 t442.length co8) t442) ∧ Aside0 (wc.heap[gb449]? = some (.cells #[.int .i64 t445, .int .i64 t446, .string t447] 27 (0, 0))) ∧ Aside0 (wc.heap[gb454]? = some (.cells #[.int .i64 t450, .int .i64 t451, .string t452] 27 (0, 0))) ∧ Aside0 (Below w.heap.size w wc))
  case first =>
   have H := HC6.out
   clear HC6
   by_cases c16 : (!(t445 == t450) || (!(t446 == t451) || (!(t447.toList == t452.toList)))) = true
   ·
    rw [if_pos c16] at H
    have c16b0 : (!(t445 == t450) || (!(t446 == t451) || (!(t447.toList == t452.toList)))) = true := c16
    clear c16
    (first | rw [c16b0] | (simp only [i64_w, i32_w]; rw [c16b0]) | skip)
    have H' := zM H
    clear H
    have hnb17 := NB449_454.out
    have hnc17 := NB454_449.out
    have hcz18_0 : w13.cell? ⟨gb449, 0, none⟩ = some (.int .i64 t445) := (zK BK449.out 0).trans rfl
    have hcz18_1 : w13.cell? ⟨gb449, 1, none⟩ = some (.int .i64 t446) := (zK BK449.out 1).trans rfl
    have hcz18_2 : w13.cell? ⟨gb449, 2, none⟩ = some (.string t447) := (zK BK449.out 2).trans rfl
    have hfz18_0 := zF BK449.out 0
    have hfz18_1 := zF BK449.out 1
    have hfz18_2 := zF BK449.out 2
    have hcz19_0 : w13.cell? ⟨gb454, 0, none⟩ = some (.int .i64 0) := (zK BK454.out 0).trans rfl
    have hcz19_1 : w13.cell? ⟨gb454, 1, none⟩ = some (.int .i64 0) := (zK BK454.out 1).trans rfl
    have hcz19_2 : w13.cell? ⟨gb454, 2, none⟩ = some (.string (⟨#[]⟩ : ByteArray)) := (zK BK454.out 2).trans rfl
    have hfz19_0 := zF BK454.out 0
    have hfz19_1 := zF BK454.out 1
    have hfz19_2 := zF BK454.out 2
    go_wp2
    go_meet
    case rel => exact ⟨_, (true), (by first | rfl | (simp; done) | (simp [*]; done)), H', ⟨by first | omega | exact Nat.le_refl _⟩, ⟨by (with_reducible repeat (first | apply zR | apply zS | apply zT)); exact Kd.R_mono (Kd.R_far (p := ⟨gb454, 2, none⟩) (Kd.R_far (p := ⟨gb454, 1, none⟩) (Kd.R_far (p := ⟨gb454, 0, none⟩) (Kd.R_types HO444.out BK454.out (by decide)) (fun _ hk => hk.2) (.int .i64 t450)) (fun _ hk => hk.2) (.int .i64 t451)) (fun _ hk => hk.2) (.string t452)) (fun _ hk => trivial)⟩, ⟨by (with_reducible repeat (first | refine zX ?_ _ | refine zY ?_ | refine zZ ?_ _)); refine blk_far ?_ NB449_454.out _; (with_reducible repeat (first | refine zX ?_ _ | refine zY ?_ | refine zZ ?_ _)); refine blk_far ?_ NB449_454.out _; (with_reducible repeat (first | refine zX ?_ _ | refine zY ?_ | refine zZ ?_ _)); refine blk_far ?_ NB449_454.out _; (with_reducible repeat (first | refine zX ?_ _ | refine zY ?_ | refine zZ ?_ _)); exact BK449.out⟩, ⟨by (with_reducible repeat (first | refine zX ?_ _ | refine zY ?_ | refine zZ ?_ _)); refine blk_put (cs := #[.int .i64 t450, .int .i64 t451, .string (⟨#[]⟩ : ByteArray)]) ?_ 2 _ rfl; (with_reducible repeat (first | refine zX ?_ _ | refine zY ?_ | refine zZ ?_ _)); refine blk_put (cs := #[.int .i64 t450, .int .i64 0, .string (⟨#[]⟩ : ByteArray)]) ?_ 1 _ rfl; (with_reducible repeat (first | refine zX ?_ _ | refine zY ?_ | refine zZ ?_ _)); refine blk_put (cs := #[.int .i64 0, .int .i64 0, .string (⟨#[]⟩ : ByteArray)]) ?_ 0 _ rfl; (with_reducible repeat (first | refine zX ?_ _ | refine zY ?_ | refine zZ ?_ _)); exact BK454.out⟩, ⟨by repeat (first | (with_reducible first | exact HB.out | apply zU | apply zV | apply zW | refine zH ?_ GE449.out | refine zH ?_ GE454.out) | exact HB.out)⟩⟩
   ·
    rw [if_neg c16] at H
    have c16b0 : (!(t445 == t450) || (!(t446 == t451) || (!(t447.toList == t452.toList)))) = false := by simpa using c16
    clear c16
    (first | rw [c16b0] | (simp only [i64_w, i32_w]; rw [c16b0]) | skip)
    have H' := zM H
    clear H
    have hnb20 := NB449_454.out
    have hnc20 := NB454_449.out
    have hcz21_0 : w13.cell? ⟨gb449, 0, none⟩ = some (.int .i64 t445) := (zK BK449.out 0).trans rfl
    have hcz21_1 : w13.cell? ⟨gb449, 1, none⟩ = some (.int .i64 t446) := (zK BK449.out 1).trans rfl
    have hcz21_2 : w13.cell? ⟨gb449, 2, none⟩ = some (.string t447) := (zK BK449.out 2).trans rfl
    have hfz21_0 := zF BK449.out 0
    have hfz21_1 := zF BK449.out 1
    have hfz21_2 := zF BK449.out 2
    have hcz22_0 : w13.cell? ⟨gb454, 0, none⟩ = some (.int .i64 0) := (zK BK454.out 0).trans rfl
    have hcz22_1 : w13.cell? ⟨gb454, 1, none⟩ = some (.int .i64 0) := (zK BK454.out 1).trans rfl
    have hcz22_2 : w13.cell? ⟨gb454, 2, none⟩ = some (.string (⟨#[]⟩ : ByteArray)) := (zK BK454.out 2).trans rfl
    have hfz22_0 := zF BK454.out 0
    have hfz22_1 := zF BK454.out 1
    have hfz22_2 := zF BK454.out 2
    go_wp2
    go_meet
    case rel => exact ⟨_, ((t448 != t453)), (by first | rfl | (simp; done) | (simp [*]; done)), H', ⟨by first | omega | exact Nat.le_refl _⟩, ⟨by (with_reducible repeat (first | apply zR | apply zS | apply zT)); exact Kd.R_mono (Kd.R_far (p := ⟨gb454, 2, none⟩) (Kd.R_far (p := ⟨gb454, 1, none⟩) (Kd.R_far (p := ⟨gb454, 0, none⟩) (Kd.R_types HO444.out BK454.out (by decide)) (fun _ hk => hk.2) (.int .i64 t450)) (fun _ hk => hk.2) (.int .i64 t451)) (fun _ hk => hk.2) (.string t452)) (fun _ hk => trivial)⟩, ⟨by (with_reducible repeat (first | refine zX ?_ _ | refine zY ?_ | refine zZ ?_ _)); refine blk_far ?_ NB449_454.out _; (with_reducible repeat (first | refine zX ?_ _ | refine zY ?_ | refine zZ ?_ _)); refine blk_far ?_ NB449_454.out _; (with_reducible repeat (first | refine zX ?_ _ | refine zY ?_ | refine zZ ?_ _)); refine blk_far ?_ NB449_454.out _; (with_reducible repeat (first | refine zX ?_ _ | refine zY ?_ | refine zZ ?_ _)); exact BK449.out⟩, ⟨by (with_reducible repeat (first | refine zX ?_ _ | refine zY ?_ | refine zZ ?_ _)); refine blk_put (cs := #[.int .i64 t450, .int .i64 t451, .string (⟨#[]⟩ : ByteArray)]) ?_ 2 _ rfl; (with_reducible repeat (first | refine zX ?_ _ | refine zY ?_ | refine zZ ?_ _)); refine blk_put (cs := #[.int .i64 t450, .int .i64 0, .string (⟨#[]⟩ : ByteArray)]) ?_ 1 _ rfl; (with_reducible repeat (first | refine zX ?_ _ | refine zY ?_ | refine zZ ?_ _)); refine blk_put (cs := #[.int .i64 0, .int .i64 0, .string (⟨#[]⟩ : ByteArray)]) ?_ 0 _ rfl; (with_reducible repeat (first | refine zX ?_ _ | refine zY ?_ | refine zZ ?_ _)); exact BK454.out⟩, ⟨by repeat (first | (with_reducible first | exact HB.out | apply zU | apply zV | apply zW | refine zH ?_ GE449.out | refine zH ?_ GE454.out) | exact HB.out)⟩⟩
  case rest =>
   clear HC6
   try clear c1
   try clear c2
   try clear c2b0
   try clear c2b1
   try clear p2
   try clear c4
   try clear c13
   try clear c14
   try clear c16
   try clear c16b0
   try clear c17
   try clear c20
   try clear hcz11_0
   try clear hcz11_1
   try clear hcz11_2
   try clear hcz15_0
   try clear hcz15_1
   try clear hcz15_2
   try clear hcz18_0
   try clear hcz18_1
   try clear hcz18_2
   try clear hcz19_0
   try clear hcz19_1
   try clear hcz19_2
   try clear hcz21_0
   try clear hcz21_1
   try clear hcz21_2
   try clear hcz22_0
   try clear hcz22_1
   try clear hcz22_2
   try clear hfz11_0
   try clear hfz11_1
   try clear hfz11_2
   try clear hfz15_0
   try clear hfz15_1
   try clear hfz15_2
   try clear hfz18_0
   try clear hfz18_1
   try clear hfz18_2
   try clear hfz19_0
   try clear hfz19_1
   try clear hfz19_2
   try clear hfz21_0
   try clear hfz21_1
   try clear hfz21_2
   try clear hfz22_0
   try clear hfz22_1
   try clear hfz22_2
   obtain ⟨kq, x32_5, rfl, HA, HJ5, HO_3, BK449, BK454, HB⟩ := hcut
   cases kq with
   | zero => exact absurd HA.out (by simp [laws_FnValueFrom.j0])
   | succ kj5 =>
    have H := HA.out
    clear HA
    simp only [laws_FnValueFrom.j0] at H
    by_cases c23 : x32_5 = true
    ·
     subst c23
     have H1 : (some false) = some r := by rw [if_pos rfl] at H; exact H
     clear H
     have H := H1
     clear H1
     obtain rfl := Option.some.inj H
     go_wp2
     go_ret
     exact ⟨by first | rfl | (simp [errW_none, errW_some] <;> rfl) | (simp [*, errW_none, errW_some] <;> rfl), by repeat (first | (with_reducible first | exact HB.out | apply zU | apply zV | apply zW | refine zH ?_ GE449.out | refine zH ?_ GE454.out) | exact HB.out)⟩
    ·
     replace c23 := Bool.eq_false_iff.mpr c23
     subst c23
     have H1 : (if t448 = 0 then ((laws_alive.f).bind fun t455 => (some t455)) else ((some (([] : List Int) : List Int)).bind fun y456 => (if 0 ≤ (wrap64 (t448 - 1)) then (if (wrap64 (t448 - 1)) ≤ (t442.length : Int) then ((some (t442.take ((wrap64 (t448 - 1)) : Int).toNat : List Int)).bind fun y459 => (if y456.length + y459.length < 140737488355328 then ((impl_ValueFrom.f kj5 (y456 ++ y459)).bind fun bt466 => ((impl_ValueBytes.f t445 t446 t447).bind fun t471 => (if 0 ≤ t448 then (if t448 ≤ (t442.length : Int) then (if (strOfNums t471).toList = (strOfNums (t442.take (t448 : Int).toNat)).toList then (some (bt466.2.2.2 == 0)) else (some false)) else (none)) else (none)))) else (none))) else (none)) else (none)))) = some r := by rw [if_neg (show ¬ (false = true) by decide)] at H; exact H
     clear H
     have H := H1
     clear H1
     by_cases c24 : t448 = 0
     ·
      rw [if_pos c24] at H
      have c24b0 : (t448 == 0) = true := beq_iff_eq.mpr c24
      have c24b1 : (t448 != 0) = false := bne_eq_false_iff_eq.mpr c24
      clear c24
      replace H := Option.bind_eq_some_iff.mp H
      obtain ⟨t455, A250, H⟩ := H
      replace H : (some t455) = some r := H
      have A25 := zM A250
      clear A250
      obtain rfl := Option.some.inj H
      go_wp2_with (first | ((with_reducible refine gate_callee (f := 37) rfl ?_); refine goesL_ (some 35) rfl rfl Try.func37 (by kernel_rfl) rfl #[] rfl (by (try simp only [List.map_toArray, List.map_cons, List.map_nil]); first | done | rfl | (simp only [List.length_drop, List.length_take]; rfl)) ?_; (with_reducible refine (laws_alive.calls  t455 _ A25.out).mono ?_); rintro e w26 ⟨rfl, hb⟩; refine ⟨_, rfl, ?_⟩; have n0_ := zM (Kd.R_below (by (with_reducible repeat (first | apply zR | apply zS | apply zT)); exact HO_3.out) hb); have n1_ := zM (zJ (g := gb449) (o := .cells #[.int .i64 t445, .int .i64 t446, .string t447] 27 (0, 0)) (by (with_reducible repeat (first | refine zX ?_ _ | refine zY ?_ | refine zZ ?_ _)); exact BK449.out) hb); have n2_ := zM (zJ (g := gb454) (o := .cells #[.int .i64 t450, .int .i64 t451, .string t452] 27 (0, 0)) (by (with_reducible repeat (first | refine zX ?_ _ | refine zY ?_ | refine zZ ?_ _)); exact BK454.out) hb); have n3_ := zM (zG (by repeat (first | (with_reducible first | exact HB.out | apply zU | apply zV | apply zW | refine zH ?_ GE449.out | refine zH ?_ GE454.out) | exact HB.out)) hb); clear HO_3; clear BK449; clear BK454; clear HB; have HO_3 := n0_; have BK449 := n1_; have BK454 := n2_; have HB := n3_; clear n0_ n1_ n2_ n3_; (try clear hb); (try clear hb2); (try clear hk); (try clear hi)))
      go_ret
      exact ⟨by first | rfl | (simp [errW_none, errW_some] <;> rfl) | (simp [*, errW_none, errW_some] <;> rfl), by repeat (first | (with_reducible first | exact HB.out | apply zU | apply zV | apply zW | refine zH ?_ GE449.out | refine zH ?_ GE454.out) | exact HB.out)⟩
     ·
      rw [if_neg c24] at H
      have c24b0 : (t448 == 0) = false := beq_eq_false_iff_ne.mpr c24
      have c24b1 : (t448 != 0) = true := bne_iff_ne.mpr c24
      obtain ⟨y456, hy456⟩ : ∃ y_ : List Int, y_ = (([] : List Int)) := ⟨_, rfl⟩
      replace H : (if 0 ≤ (wrap64 (t448 - 1)) then (if (wrap64 (t448 - 1)) ≤ (t442.length : Int) then ((some (t442.take ((wrap64 (t448 - 1)) : Int).toNat : List Int)).bind fun y459 => (if y456.length + y459.length < 140737488355328 then ((impl_ValueFrom.f kj5 (y456 ++ y459)).bind fun bt466 => ((impl_ValueBytes.f t445 t446 t447).bind fun t471 => (if 0 ≤ t448 then (if t448 ≤ (t442.length : Int) then (if (strOfNums t471).toList = (strOfNums (t442.take (t448 : Int).toNat)).toList then (some (bt466.2.2.2 == 0)) else (some false)) else (none)) else (none)))) else (none))) else (none)) else (none)) = some r := by first | (rw [hy456]; with_reducible exact H) | (have H2_ := (Option.bind_some _ _).symm.trans H; rw [hy456]; with_reducible exact H2_) | (have H2_ := (Option.bind_some _ _).symm.trans H; with_reducible exact H2_) | with_reducible exact H | (rw [hy456]; exact H) | exact H
      have Ny456 := zM hy456
      clear hy456
      obtain ⟨ji27, hji27⟩ : ∃ j_ : Int, (wrap64 (t448 - 1)) = j_ := ⟨_, rfl⟩
      replace H : (if 0 ≤ (ji27) then (if (ji27) ≤ (t442.length : Int) then ((some (t442.take ((ji27) : Int).toNat : List Int)).bind fun y459 => (if y456.length + y459.length < 140737488355328 then ((impl_ValueFrom.f kj5 (y456 ++ y459)).bind fun bt466 => ((impl_ValueBytes.f t445 t446 t447).bind fun t471 => (if 0 ≤ t448 then (if t448 ≤ (t442.length : Int) then (if (strOfNums t471).toList = (strOfNums (t442.take (t448 : Int).toNat)).toList then (some (bt466.2.2.2 == 0)) else (some false)) else (none)) else (none)))) else (none))) else (none)) else (none)) = some r := by first | (rw [hji27] at H; exact H) | (simp only [hji27] at H ⊢; exact H)
      have hji27w : (IntKind.i64.wrap (t448 - 1)) = ji27 := (i64_w _).trans hji27
      by_cases c28 : 0 ≤ (ji27)
      ·
       rw [if_pos c28] at H
       have c28b0 := eq_true c28
       have c28b1 : decide (0 ≤ (ji27)) = true := decide_eq_true c28
       clear c28
       by_cases c29 : (ji27) ≤ (t442.length : Int)
       ·
        rw [if_pos c29] at H
        have c29b0 := eq_true c29
        have c29b1 : decide ((ji27) ≤ (t442.length : Int)) = true := decide_eq_true c29
        clear c29
        obtain ⟨y459, hy459⟩ : ∃ y_ : List Int, y_ = (t442.take ((ji27) : Int).toNat) := ⟨_, rfl⟩
        replace H : (if y456.length + y459.length < 140737488355328 then ((impl_ValueFrom.f kj5 (y456 ++ y459)).bind fun bt466 => ((impl_ValueBytes.f t445 t446 t447).bind fun t471 => (if 0 ≤ t448 then (if t448 ≤ (t442.length : Int) then (if (strOfNums t471).toList = (strOfNums (t442.take (t448 : Int).toNat)).toList then (some (bt466.2.2.2 == 0)) else (some false)) else (none)) else (none)))) else (none)) = some r := by first | (rw [hy459]; with_reducible exact H) | (have H2_ := (Option.bind_some _ _).symm.trans H; rw [hy459]; with_reducible exact H2_) | (have H2_ := (Option.bind_some _ _).symm.trans H; with_reducible exact H2_) | with_reducible exact H | (rw [hy459]; exact H) | exact H
        have Ny459 := zM hy459
        clear hy459
        by_cases c30 : y456.length + y459.length < 140737488355328
        ·
         rw [if_pos c30] at H
         have LMc30 := zM c30
         clear c30
         obtain ⟨y463, hy463⟩ : ∃ y_ : List Int, y_ = (y456 ++ y459) := ⟨_, rfl⟩
         replace H : ((impl_ValueFrom.f kj5 y463).bind fun bt466 => ((impl_ValueBytes.f t445 t446 t447).bind fun t471 => (if 0 ≤ t448 then (if t448 ≤ (t442.length : Int) then (if (strOfNums t471).toList = (strOfNums (t442.take (t448 : Int).toNat)).toList then (some (bt466.2.2.2 == 0)) else (some false)) else (none)) else (none)))) = some r := by first | (rw [hy463]; with_reducible exact H) | (have H2_ := (Option.bind_some _ _).symm.trans H; rw [hy463]; with_reducible exact H2_) | (have H2_ := (Option.bind_some _ _).symm.trans H; with_reducible exact H2_) | with_reducible exact H | (rw [hy463]; exact H) | exact H
         have Ny463 := zM hy463
         clear hy463
         replace H := Option.bind_eq_some_iff.mp H
         obtain ⟨⟨t466, t467, t468, t469⟩, A310, H⟩ := H
         replace H : ((impl_ValueBytes.f t445 t446 t447).bind fun t471 => (if 0 ≤ t448 then (if t448 ≤ (t442.length : Int) then (if (strOfNums t471).toList = (strOfNums (t442.take (t448 : Int).toNat)).toList then (some (t469 == 0)) else (some false)) else (none)) else (none))) = some r := H
         have A31 := zM A310
         clear A310
         replace H := Option.bind_eq_some_iff.mp H
         obtain ⟨t471, A320, H⟩ := H
         replace H : (if 0 ≤ t448 then (if t448 ≤ (t442.length : Int) then (if (strOfNums t471).toList = (strOfNums (t442.take (t448 : Int).toNat)).toList then (some (t469 == 0)) else (some false)) else (none)) else (none)) = some r := H
         have A32 := zM A320
         clear A320
         by_cases c33 : 0 ≤ t448
         ·
          rw [if_pos c33] at H
          have c33b0 := eq_true c33
          have c33b1 : decide (0 ≤ t448) = true := decide_eq_true c33
          clear c33
          by_cases c34 : t448 ≤ (t442.length : Int)
          ·
           rw [if_pos c34] at H
           have c34b0 := eq_true c34
           have c34b1 : decide (t448 ≤ (t442.length : Int)) = true := decide_eq_true c34
           clear c34
           obtain ⟨y474, hy474⟩ : ∃ y_ : List Int, y_ = (t442.take (t448 : Int).toNat) := ⟨_, rfl⟩
           replace H : (if (strOfNums t471).toList = (strOfNums y474).toList then (some (t469 == 0)) else (some false)) = some r := by first | (rw [hy474]; with_reducible exact H) | (have H2_ := (Option.bind_some _ _).symm.trans H; rw [hy474]; with_reducible exact H2_) | (have H2_ := (Option.bind_some _ _).symm.trans H; with_reducible exact H2_) | with_reducible exact H | (rw [hy474]; exact H) | exact H
           have Ny474 := zM hy474
           clear hy474
           by_cases c35 : (strOfNums t471).toList = (strOfNums y474).toList
           ·
            rw [if_pos c35] at H
            have c35b0 : ((strOfNums t471).toList == (strOfNums y474).toList) = true := beq_iff_eq.mpr c35
            have c35b1 : ((strOfNums t471).toList != (strOfNums y474).toList) = false := bne_eq_false_iff_eq.mpr c35
            clear c35
            obtain rfl := Option.some.inj H
            try go_wp2_with (first | ((with_reducible refine gate_dst (N := 37) rfl ?_); refine Kd.R_lit (Kd.int .u8) _ 5 ?hg (N := 37) ?hd (xs := ([] : List Int)) (inner := []) (ok := fun _ => True) (okp := fun _ => True) ?hr ?hp (fun _ hk => hk) trivial (Below.refl _ _) (Nat.le_refl _) (by simp) ?_; (case hd => rfl); (case hg => rfl); (case hr => first | (go_simp; done) | (go_simp; rfl)); (case hp => exact (Reps.none _ _)); intro v457 w36 ho37 hb hg_ hnew_; clear hg_ hnew_; (first | rw [← Ny456.out] at ho37 | (simp only [Int.reduceToNat] at ho37; rw [← Ny456.out] at ho37)); have n0_ := zM (Kd.R_elder' (by (with_reducible repeat (first | apply zR | apply zS | apply zT)); exact HO_3.out) (Kd.R_base ho37) hb); have n1_ := zM (Kd.R_lower (Kd.R_new' ho37 (Kd.R_lt (by (with_reducible repeat (first | apply zR | apply zS | apply zT)); exact HO_3.out))) (zI (by repeat (first | (with_reducible first | exact HB.out | apply zU | apply zV | apply zW | refine zH ?_ GE449.out | refine zH ?_ GE454.out) | exact HB.out)))); have n2_ := zM (zJ (g := gb449) (o := .cells #[.int .i64 t445, .int .i64 t446, .string t447] 27 (0, 0)) (by (with_reducible repeat (first | refine zX ?_ _ | refine zY ?_ | refine zZ ?_ _)); exact BK449.out) hb); have n3_ := zM (zJ (g := gb454) (o := .cells #[.int .i64 t450, .int .i64 t451, .string t452] 27 (0, 0)) (by (with_reducible repeat (first | refine zX ?_ _ | refine zY ?_ | refine zZ ?_ _)); exact BK454.out) hb); have n4_ := zM (zG (by repeat (first | (with_reducible first | exact HB.out | apply zU | apply zV | apply zW | refine zH ?_ GE449.out | refine zH ?_ GE454.out) | exact HB.out)) hb); clear HO_3; clear BK449; clear BK454; clear HB; have HO_3 := n0_; have HO458 := n1_; have BK449 := n2_; have BK454 := n3_; have HB := n4_; clear n0_ n1_ n2_ n3_ n4_; clear hb ho37; have q38 : ((ji27) : Int) ≤ ((t442.length : Int) : Int) := zL (by assumption); obtain ⟨i038, hi038, _, hsz38, _⟩ := info_parts info5; have hroom38 : t442.length ≤ co8 := (Kd.R_reads' HO_3.out).2.1; have hC38 : Kd.C (Kd.int .u8) _ Ao8 t442.length t442 := (Kd.R_reads' HO_3.out).2.2; have hcut38 := cut_to (P := Try.prog) 25 5 .i64 Try.underlying25 hi038 Ao8 t442.length co8 (ji27) (zL (by assumption)) q38 hroom38; have hr38 := Kd.C_take (m := ((ji27) : Int).toNat) hC38 (by omega); have hy38 : y459.length = ((ji27) : Int).toNat := (by rw [Ny459.out, List.length_take]; omega); rw [← Ny459.out] at hr38; rw [← hy38] at hcut38; have HR462 := zM hr38; have HC462 := zM (show y459.length ≤ co8 from by omega); clear hr38 hC38 hroom38 hi038 hsz38; have KY38 := zM hy38; clear hy38; have KL38 := zM (show ((ji27) : Int).toNat ≤ t442.length from by omega); replace q38 := eq_true q38) | ((with_reducible refine gate_builtin (b := .append) (xs := #[.tmp 37, .tmp 41]) rfl ?_); at_builtin; refine Kd.R_append_rows (Kd.int .u8) (w0 := w) w.heap.size rfl (.tmp 37) (.tmp 41) 25 5 (.int .u8 0) 1 rfl Try.underlying25 info5 rfl (by decide) (by omega) v457 y456 y459 _ _ _ (fun k_ => some k_ ≠ (.slice Ao8 t442.length co8 : Value).ownBlock) (fun _ => False) rfl rfl ?aO ?aR (fun _ _ h => h) (fun _ h => h.elim) ?aF ?aB ?aS ?aL ?_; (case aR => repeat (first | exact (by repeat (first | (with_reducible exact HR462.out) | (with_reducible refine zQ ?_ _) | (with_reducible refine zO ?_ _) | (with_reducible refine zP ?_) | exact HR462.out)) | (with_reducible refine zQ ?_ _) | (with_reducible refine zO ?_ _) | (with_reducible refine zP ?_))); (case aB => exact (by repeat (first | (with_reducible first | exact HB.out | apply zU | apply zV | apply zW | refine zH ?_ GE449.out | refine zH ?_ GE454.out) | exact HB.out))); (case aF => exact (fun k_ hk => Kd.fresh' (Kd.R_lt (by (with_reducible repeat (first | apply zR | apply zS | apply zT)); exact HO_3.out)) k_ hk)); (case aO => exact (by (with_reducible repeat (first | apply zR | apply zS | apply zT)); exact Kd.R_mono HO458.out (fun _ hk => hk.2))); (case aS => exact (zI (by repeat (first | (with_reducible first | exact HB.out | apply zU | apply zV | apply zW | refine zH ?_ GE449.out | refine zH ?_ GE454.out) | exact HB.out)))); (case aL => have := LMc30.out; omega); intro v464 w39 ho hb hg hat; rw [← Ny463.out] at ho; have n0_ := zM (Kd.R_after (ok := (fun _ => True)) (by (with_reducible repeat (first | apply zR | apply zS | apply zT)); exact HO_3.out) hg hat); have n1_ := zM (blk_grown (g := gb449) (o := .cells #[.int .i64 t445, .int .i64 t446, .string t447] 27 (0, 0)) (by (with_reducible repeat (first | refine zX ?_ _ | refine zY ?_ | refine zZ ?_ _)); exact BK449.out) hg (Kd.R_ne HO458.out BK449.out (by decide))); have n2_ := zM (blk_grown (g := gb454) (o := .cells #[.int .i64 t450, .int .i64 t451, .string t452] 27 (0, 0)) (by (with_reducible repeat (first | refine zX ?_ _ | refine zY ?_ | refine zZ ?_ _)); exact BK454.out) hg (Kd.R_ne HO458.out BK454.out (by decide))); have n3_ := zM (hb); have n4_ := zM ((show Kd.C (Kd.int .u8) w39 Ao8 y459.length y459 from by rw [Ny459.out]; exact Kd.C_take (m := ((ji27) : Int).toNat) ((Kd.R_reads' (Kd.R_after (ok := (fun _ => True)) (by (with_reducible repeat (first | apply zR | apply zS | apply zT)); exact HO_3.out) hg hat)).2.2) KL38.out)); have n5_ := zM (ho); clear HO_3; clear BK449; clear BK454; clear HB; clear HR462; clear HO458; have HO_3 := n0_; have BK449 := n1_; have BK454 := n2_; have HB := n3_; have HR462 := n4_; have HO465 := n5_; clear n0_ n1_ n2_ n3_ n4_ n5_; clear ho hb hg hat; obtain ⟨Ao40, co40, eo40⟩ := Kd.R_slice HO465.out; subst eo40) | ((with_reducible refine gate_callee (f := 26) rfl ?_); refine goesL_ (some 43) rfl rfl Try.func26 (by kernel_rfl) rfl #[.slice Ao40 y463.length co40] rfl (by (try simp only [List.map_toArray, List.map_cons, List.map_nil]); first | done | rfl | (simp only [List.length_drop, List.length_take]; rfl)) ?_; (with_reducible refine (impl_ValueFrom.calls kj5 _ _ y463 t466 t467 t468 t469 _ ?side1 ?side2 A31.out).mono ?_); (case side1 => repeat (first | exact (Kd.R_reads' HO465.out).2.2 | (with_reducible refine zQ ?_ _) | (with_reducible refine zO ?_ _) | (with_reducible refine zP ?_))); (case side2 => exact (Kd.R_reads' HO465.out).2.1); rintro e w41 ⟨rfl, hb⟩; refine ⟨_, rfl, ?_⟩; have n0_ := zM (Kd.R_below (by (with_reducible repeat (first | apply zR | apply zS | apply zT)); exact HO_3.out) hb); have n1_ := zM (Kd.R_below (by (with_reducible repeat (first | apply zR | apply zS | apply zT)); exact HO465.out) hb); have n2_ := zM (zJ (g := gb449) (o := .cells #[.int .i64 t445, .int .i64 t446, .string t447] 27 (0, 0)) (by (with_reducible repeat (first | refine zX ?_ _ | refine zY ?_ | refine zZ ?_ _)); exact BK449.out) hb); have n3_ := zM (zJ (g := gb454) (o := .cells #[.int .i64 t450, .int .i64 t451, .string t452] 27 (0, 0)) (by (with_reducible repeat (first | refine zX ?_ _ | refine zY ?_ | refine zZ ?_ _)); exact BK454.out) hb); have n4_ := zM (Kd.C_below (by repeat (first | (with_reducible exact HR462.out) | (with_reducible refine zQ ?_ _) | (with_reducible refine zO ?_ _) | (with_reducible refine zP ?_) | exact HR462.out)) hb); have n5_ := zM (zG (by repeat (first | (with_reducible first | exact HB.out | apply zU | apply zV | apply zW | refine zH ?_ GE449.out | refine zH ?_ GE454.out) | exact HB.out)) hb); clear HO_3; clear HO465; clear BK449; clear BK454; clear HR462; clear HB; have HO_3 := n0_; have HO465 := n1_; have BK449 := n2_; have BK454 := n3_; have HR462 := n4_; have HB := n5_; clear n0_ n1_ n2_ n3_ n4_ n5_; (try clear hb); (try clear hb2); (try clear hk); (try clear hi)) | ((with_reducible refine gate_dst (N := 8) rfl ?_); refine box_event ?hg (N := 8) ?hd (cs := #[.int .i64 0, .int .i64 0, .string (⟨#[]⟩ : ByteArray)]) (t := 27) ?hr ?_; (case hd => rfl); (case hg => rfl); (case hr => first | (go_simp; done) | (go_simp; rfl)); intro gb470 hg w42 hbox hb; have n0_ := zM (Kd.R_below (by (with_reducible repeat (first | apply zR | apply zS | apply zT)); exact HO_3.out) hb); have n1_ := zM (Kd.R_below (by (with_reducible repeat (first | apply zR | apply zS | apply zT)); exact HO465.out) hb); have n2_ := zM (zJ (g := gb449) (o := .cells #[.int .i64 t445, .int .i64 t446, .string t447] 27 (0, 0)) (by (with_reducible repeat (first | refine zX ?_ _ | refine zY ?_ | refine zZ ?_ _)); exact BK449.out) hb); have n3_ := zM (zJ (g := gb454) (o := .cells #[.int .i64 t450, .int .i64 t451, .string t452] 27 (0, 0)) (by (with_reducible repeat (first | refine zX ?_ _ | refine zY ?_ | refine zZ ?_ _)); exact BK454.out) hb); have n4_ := zM (Kd.C_below (by repeat (first | (with_reducible exact HR462.out) | (with_reducible refine zQ ?_ _) | (with_reducible refine zO ?_ _) | (with_reducible refine zP ?_) | exact HR462.out)) hb); have n5_ := zM (zG (by repeat (first | (with_reducible first | exact HB.out | apply zU | apply zV | apply zW | refine zH ?_ GE449.out | refine zH ?_ GE454.out) | exact HB.out)) hb); have n6_ := zM (hbox); have n7_ := zM ((by rw [hg]; exact (zI (by repeat (first | (with_reducible first | exact HB.out | apply zU | apply zV | apply zW | refine zH ?_ GE449.out | refine zH ?_ GE454.out) | exact HB.out))) : w.heap.size ≤ gb470)); have n8_ := zM ((by rw [hg]; exact (zI (by repeat (first | (with_reducible first | exact HB.out | apply zU | apply zV | apply zW | refine zH ?_ GE449.out | refine zH ?_ GE454.out) | exact HB.out))) : w.heap.size ≤ gb470)); have n9_ := zM ((by rw [hg]; exact Nat.ne_of_lt (blk_lt (g := gb449) (o := .cells #[.int .i64 t445, .int .i64 t446, .string t447] 27 (0, 0)) (by (with_reducible repeat (first | refine zX ?_ _ | refine zY ?_ | refine zZ ?_ _)); exact BK449.out)) : gb449 ≠ gb470)); have n10_ := zM ((by rw [hg]; exact Nat.ne_of_gt (blk_lt (g := gb449) (o := .cells #[.int .i64 t445, .int .i64 t446, .string t447] 27 (0, 0)) (by (with_reducible repeat (first | refine zX ?_ _ | refine zY ?_ | refine zZ ?_ _)); exact BK449.out)) : gb470 ≠ gb449)); have n11_ := zM ((by rw [hg]; exact Nat.ne_of_lt (blk_lt (g := gb454) (o := .cells #[.int .i64 t450, .int .i64 t451, .string t452] 27 (0, 0)) (by (with_reducible repeat (first | refine zX ?_ _ | refine zY ?_ | refine zZ ?_ _)); exact BK454.out)) : gb454 ≠ gb470)); have n12_ := zM ((by rw [hg]; exact Nat.ne_of_gt (blk_lt (g := gb454) (o := .cells #[.int .i64 t450, .int .i64 t451, .string t452] 27 (0, 0)) (by (with_reducible repeat (first | refine zX ?_ _ | refine zY ?_ | refine zZ ?_ _)); exact BK454.out)) : gb470 ≠ gb454)); clear HO_3; clear HO465; clear BK449; clear BK454; clear HR462; clear HB; have HO_3 := n0_; have HO465 := n1_; have BK449 := n2_; have BK454 := n3_; have HR462 := n4_; have HB := n5_; have BK470 := n6_; have GW470 := n7_; have GE470 := n8_; have NB449_470 := n9_; have NB470_449 := n10_; have NB454_470 := n11_; have NB470_454 := n12_; clear n0_ n1_ n2_ n3_ n4_ n5_ n6_ n7_ n8_ n9_ n10_ n11_ n12_; clear hb hbox hg; have hnb43 := NB470_449.out; have hnc43 := NB449_470.out; have hnb44 := NB470_454.out; have hnc44 := NB454_470.out; have hcz45_0 : w42.cell? ⟨gb470, 0, none⟩ = some (.int .i64 0) := (zK BK470.out 0).trans rfl; have hcz45_1 : w42.cell? ⟨gb470, 1, none⟩ = some (.int .i64 0) := (zK BK470.out 1).trans rfl; have hcz45_2 : w42.cell? ⟨gb470, 2, none⟩ = some (.string (⟨#[]⟩ : ByteArray)) := (zK BK470.out 2).trans rfl; have hfz45_0 := zF BK470.out 0; have hfz45_1 := zF BK470.out 1; have hfz45_2 := zF BK470.out 2))
            have n0_ : Aside0 (Kd.R (Kd.int .u8) 5 (((w42.setCell ⟨gb470, 0, none⟩ (.int .i64 t466)).setCell ⟨gb470, 1, none⟩ (.int .i64 t467)).setCell ⟨gb470, 2, none⟩ (.string t468)) w.heap.size (fun k_ => some k_ ≠ (.slice Ao40 y463.length co40 : Value).ownBlock) (.slice Ao8 t442.length co8) t442) := ⟨by (with_reducible repeat (first | apply zR | apply zS | apply zT)); exact Kd.R_mono (Kd.R_far (p := ⟨gb470, 2, none⟩) (Kd.R_far (p := ⟨gb470, 1, none⟩) (Kd.R_far (p := ⟨gb470, 0, none⟩) (Kd.R_types HO_3.out BK470.out (by decide)) (fun _ hk => hk.2) (.int .i64 t466)) (fun _ hk => hk.2) (.int .i64 t467)) (fun _ hk => hk.2) (.string t468)) (fun _ hk => hk.1.2)⟩
            have n1_ : Aside0 (Kd.R (Kd.int .u8) 5 (((w42.setCell ⟨gb470, 0, none⟩ (.int .i64 t466)).setCell ⟨gb470, 1, none⟩ (.int .i64 t467)).setCell ⟨gb470, 2, none⟩ (.string t468)) w.heap.size (fun k_ => some k_ ≠ (.slice Ao8 t442.length co8 : Value).ownBlock) (.slice Ao40 y463.length co40) y463) := ⟨by (with_reducible repeat (first | apply zR | apply zS | apply zT)); exact Kd.R_mono (Kd.R_far (p := ⟨gb470, 2, none⟩) (Kd.R_far (p := ⟨gb470, 1, none⟩) (Kd.R_far (p := ⟨gb470, 0, none⟩) (Kd.R_types HO465.out BK470.out (by decide)) (fun _ hk => hk.2) (.int .i64 t466)) (fun _ hk => hk.2) (.int .i64 t467)) (fun _ hk => hk.2) (.string t468)) (fun _ hk => hk.1)⟩
            have n2_ : Aside0 ((((w42.setCell ⟨gb470, 0, none⟩ (.int .i64 t466)).setCell ⟨gb470, 1, none⟩ (.int .i64 t467)).setCell ⟨gb470, 2, none⟩ (.string t468)).heap[gb449]? = some (.cells #[.int .i64 t445, .int .i64 t446, .string t447] 27 (0, 0))) := ⟨by (with_reducible repeat (first | refine zX ?_ _ | refine zY ?_ | refine zZ ?_ _)); refine blk_far ?_ NB449_470.out _; (with_reducible repeat (first | refine zX ?_ _ | refine zY ?_ | refine zZ ?_ _)); refine blk_far ?_ NB449_470.out _; (with_reducible repeat (first | refine zX ?_ _ | refine zY ?_ | refine zZ ?_ _)); refine blk_far ?_ NB449_470.out _; (with_reducible repeat (first | refine zX ?_ _ | refine zY ?_ | refine zZ ?_ _)); exact BK449.out⟩
            have n3_ : Aside0 ((((w42.setCell ⟨gb470, 0, none⟩ (.int .i64 t466)).setCell ⟨gb470, 1, none⟩ (.int .i64 t467)).setCell ⟨gb470, 2, none⟩ (.string t468)).heap[gb454]? = some (.cells #[.int .i64 t450, .int .i64 t451, .string t452] 27 (0, 0))) := ⟨by (with_reducible repeat (first | refine zX ?_ _ | refine zY ?_ | refine zZ ?_ _)); refine blk_far ?_ NB454_470.out _; (with_reducible repeat (first | refine zX ?_ _ | refine zY ?_ | refine zZ ?_ _)); refine blk_far ?_ NB454_470.out _; (with_reducible repeat (first | refine zX ?_ _ | refine zY ?_ | refine zZ ?_ _)); refine blk_far ?_ NB454_470.out _; (with_reducible repeat (first | refine zX ?_ _ | refine zY ?_ | refine zZ ?_ _)); exact BK454.out⟩
            have n4_ : Aside0 ((((w42.setCell ⟨gb470, 0, none⟩ (.int .i64 t466)).setCell ⟨gb470, 1, none⟩ (.int .i64 t467)).setCell ⟨gb470, 2, none⟩ (.string t468)).heap[gb470]? = some (.cells #[.int .i64 t466, .int .i64 t467, .string t468] 27 (0, 0))) := ⟨by (with_reducible repeat (first | refine zX ?_ _ | refine zY ?_ | refine zZ ?_ _)); refine blk_put (cs := #[.int .i64 t466, .int .i64 t467, .string (⟨#[]⟩ : ByteArray)]) ?_ 2 _ rfl; (with_reducible repeat (first | refine zX ?_ _ | refine zY ?_ | refine zZ ?_ _)); refine blk_put (cs := #[.int .i64 t466, .int .i64 0, .string (⟨#[]⟩ : ByteArray)]) ?_ 1 _ rfl; (with_reducible repeat (first | refine zX ?_ _ | refine zY ?_ | refine zZ ?_ _)); refine blk_put (cs := #[.int .i64 0, .int .i64 0, .string (⟨#[]⟩ : ByteArray)]) ?_ 0 _ rfl; (with_reducible repeat (first | refine zX ?_ _ | refine zY ?_ | refine zZ ?_ _)); exact BK470.out⟩
            have n5_ : Aside0 (Below w.heap.size w (((w42.setCell ⟨gb470, 0, none⟩ (.int .i64 t466)).setCell ⟨gb470, 1, none⟩ (.int .i64 t467)).setCell ⟨gb470, 2, none⟩ (.string t468))) := ⟨by repeat (first | (with_reducible first | exact HB.out | apply zU | apply zV | apply zW | refine zH ?_ GE449.out | refine zH ?_ GE454.out | refine zH ?_ GE470.out) | exact HB.out)⟩
            (try clear HO_3)
            (try clear HO465)
            (try clear BK449)
            (try clear BK454)
            (try clear BK470)
            (try clear HB)
            generalize (((w42.setCell ⟨gb470, 0, none⟩ (.int .i64 t466)).setCell ⟨gb470, 1, none⟩ (.int .i64 t467)).setCell ⟨gb470, 2, none⟩ (.string t468)) = w46 at n0_ n1_ n2_ n3_ n4_ n5_ ⊢
            have HO_3 := n0_
            have HO465 := n1_
            have BK449 := n2_
            have BK454 := n3_
            have BK470 := n4_
            have HB := n5_
            clear n0_ n1_ n2_ n3_ n4_ n5_
            have n0_ := zM (zT HO_3.out)
            have n1_ := zM (zT HO465.out)
            have n2_ := zM (zY BK449.out)
            have n3_ := zM (zY BK454.out)
            have n4_ := zM (zY BK470.out)
            have n5_ := zM (zW HB.out)
            clear HO_3
            clear HO465
            clear BK449
            clear BK454
            clear BK470
            clear HB
            have HO_3 := n0_
            have HO465 := n1_
            have BK449 := n2_
            have BK454 := n3_
            have BK470 := n4_
            have HB := n5_
            clear n0_ n1_ n2_ n3_ n4_ n5_
            have q48 : (t448 : Int) ≤ ((t442.length : Int) : Int) := zL (by assumption)
            obtain ⟨i048, hi048, _, hsz48, _⟩ := info_parts info5
            have hroom48 : t442.length ≤ co8 := (Kd.R_reads' HO_3.out).2.1
            have hC48 : Kd.C (Kd.int .u8) _ Ao8 t442.length t442 := (Kd.R_reads' HO_3.out).2.2
            have hcut48 := cut_to (P := Try.prog) 25 5 .i64 Try.underlying25 hi048 Ao8 t442.length co8 t448 (zL (by assumption)) q48 hroom48
            have hr48 := Kd.C_take (m := (t448 : Int).toNat) hC48 (by omega)
            have hy48 : y474.length = (t448 : Int).toNat := (by rw [Ny474.out, List.length_take]; omega)
            rw [← Ny474.out] at hr48
            rw [← hy48] at hcut48
            have HR477 := zM hr48
            have HC477 := zM (show y474.length ≤ co8 from by omega)
            clear hr48 hC48 hroom48 hi048 hsz48
            have KY48 := zM hy48
            clear hy48
            have KL48 := zM (show (t448 : Int).toNat ≤ t442.length from by omega)
            replace q48 := eq_true q48
            refine start_ (n := 13) (S := fun w' => w'.cell? ⟨gb449, 0, none⟩ = some (.int .i64 t445) ∧ w'.cell? ⟨gb449, 1, none⟩ = some (.int .i64 t446) ∧ w'.cell? ⟨gb449, 2, none⟩ = some (.string t447) ∧ (convert 25 9 (.slice Ao8 y474.length co8)).run Try.prog w' = .ok (.string (strOfNums y474)) w') (ds := []) #[ff, ff, ff, ff, ff, ff, ff, ff, ff, ff, ff, ff, ff] (by kernel_rfl) rfl rfl ⟨(zK BK449.out 0).trans rfl, (zK BK449.out 1).trans rfl, (zK BK449.out 2).trans rfl, Kd.C_string (P := Try.prog) (A := Ao8) (c := co8) Try.underlying25 Try.underlying5 Try.underlying9 (by repeat (first | (with_reducible exact HR477.out) | (with_reducible refine zQ ?_ _) | (with_reducible refine zO ?_ _) | (with_reducible refine zP ?_) | exact HR477.out))⟩ (fun hHeld => ?_); refine with_tabW laws_FnValueFrom.tab11 laws_FnValueFrom.bits11 (fun HT_ HW_ => ?_)
            generalize w46.drew = w47 at HO_3 HO465 BK449 BK454 BK470 HB HR477 hHeld ⊢
            refine pure_ (i := 3) (N := some 49) (v := ?_) (a' := ?_) #[ff, ff, ff, tt, ff, ff, ff, ff, ff, ff, ff, ff, ff] rfl rfl (any_of HT_.out (by kernel_rfl)) (fun _ _ _ h => h) (Or.inl ⟨by rfl, ?_⟩) ?_ ?_
            rotate_left
            ·
             intro w'
             go_simp
             with_reducible rfl
            rotate_left
            ·
             simp only [Act.put, zA, zB, zC, i64_w, i32_w]
             rfl
            refine pure_ (i := 4) (N := some 50) (v := ?_) (a' := ?_) #[ff, ff, ff, tt, tt, ff, ff, ff, ff, ff, ff, ff, ff] rfl rfl (any_of HT_.out (by kernel_rfl)) (fun _ _ _ h => h) (Or.inl ⟨by rfl, ?_⟩) ?_ ?_
            rotate_left
            ·
             intro w'
             go_simp
             with_reducible rfl
            rotate_left
            ·
             simp only [Act.put, zA, zB, zC, i64_w, i32_w]
             rfl
            refine pure_ (i := 5) (N := some 51) (v := ?_) (a' := ?_) #[ff, ff, ff, tt, tt, tt, ff, ff, ff, ff, ff, ff, ff] rfl rfl (any_of HT_.out (by kernel_rfl)) (fun _ _ _ h => h) (Or.inl ⟨by rfl, ?_⟩) ?_ ?_
            rotate_left
            ·
             intro w'
             go_simp
             with_reducible rfl
            rotate_left
            ·
             simp only [Act.put, zA, zB, zC, i64_w, i32_w]
             rfl
            refine take_ (i := 6) (N := some 52) (v := ?_) (a' := ?_) #[ff, ff, ff, tt, tt, tt, tt, ff, ff, ff, ff, ff, ff] rfl rfl (take_ofW HT_.out HW_.out (by kernel_rfl)) (fun _ _ _ h => h) (Or.inl ⟨by rfl, ?_⟩) hHeld ?_ ?_
            rotate_left
            ·
             rintro w' ⟨s0, s1, s2, s3⟩
             go_simp
             with_reducible rfl
            rotate_left
            ·
             simp only [Act.put, zA, zB, zC, i64_w, i32_w]
             rfl
            refine take_ (i := 0) (N := some 46) (v := ?_) (a' := ?_) #[tt, ff, ff, tt, tt, tt, tt, ff, ff, ff, ff, ff, ff] rfl rfl (take_ofW HT_.out HW_.out (by kernel_rfl)) (fun _ _ _ h => h) (Or.inl ⟨by rfl, ?_⟩) hHeld ?_ ?_
            rotate_left
            ·
             rintro w' ⟨s0, s1, s2, s3⟩
             go_simp
             with_reducible rfl
            rotate_left
            ·
             simp only [Act.put, zA, zB, zC, i64_w, i32_w]
             rfl
            refine one_ (i := 1) (N := some 47) #[tt, tt, ff, tt, tt, tt, tt, ff, ff, ff, ff, ff, ff] rfl rfl (one_of HT_.out (by kernel_rfl)) (by decide) (fun K hK => ?_)
            refine goes_ Try.func18 (by kernel_rfl) rfl #[.agg #[.int .i64 t445, .int .i64 t446, .string t447]] (by rfl) rfl rfl (by (try simp only [List.map_toArray, List.map_cons, List.map_nil]); first | done | rfl | (simp only [List.length_drop, List.length_take]; rfl)) ?_
            with_reducible refine (impl_ValueBytes.calls t445 t446 t447 t471 _ A32.out).mono ?_
            rintro e w49 ⟨v472, rfl, ho0, hb⟩
            refine ⟨_, rfl, ?_⟩
            have n0_ := zM (Kd.R_elder' (by (with_reducible repeat (first | apply zR | apply zS | apply zT)); exact HO_3.out) (Kd.R_base ho0) hb)
            have n1_ := zM (Kd.R_elder' (by (with_reducible repeat (first | apply zR | apply zS | apply zT)); exact HO465.out) (Kd.R_base ho0) hb)
            have n2_ := zM (Kd.R_lower (Kd.R_new' (Kd.R_new' ho0 (Kd.R_lt (by (with_reducible repeat (first | apply zR | apply zS | apply zT)); exact HO_3.out))) (Kd.R_lt (by (with_reducible repeat (first | apply zR | apply zS | apply zT)); exact HO465.out))) (zI (by repeat (first | (with_reducible first | exact HB.out | apply zU | apply zV | apply zW | refine zH ?_ GE449.out | refine zH ?_ GE454.out | refine zH ?_ GE470.out) | exact HB.out))))
            have n3_ := zM (zJ (g := gb449) (o := .cells #[.int .i64 t445, .int .i64 t446, .string t447] 27 (0, 0)) (by (with_reducible repeat (first | refine zX ?_ _ | refine zY ?_ | refine zZ ?_ _)); exact BK449.out) hb)
            have n4_ := zM (zJ (g := gb454) (o := .cells #[.int .i64 t450, .int .i64 t451, .string t452] 27 (0, 0)) (by (with_reducible repeat (first | refine zX ?_ _ | refine zY ?_ | refine zZ ?_ _)); exact BK454.out) hb)
            have n5_ := zM (zJ (g := gb470) (o := .cells #[.int .i64 t466, .int .i64 t467, .string t468] 27 (0, 0)) (by (with_reducible repeat (first | refine zX ?_ _ | refine zY ?_ | refine zZ ?_ _)); exact BK470.out) hb)
            have n6_ := zM (Kd.C_below (by repeat (first | (with_reducible exact HR477.out) | (with_reducible refine zQ ?_ _) | (with_reducible refine zO ?_ _) | (with_reducible refine zP ?_) | exact HR477.out)) hb)
            have n7_ := zM (zG (by repeat (first | (with_reducible first | exact HB.out | apply zU | apply zV | apply zW | refine zH ?_ GE449.out | refine zH ?_ GE454.out | refine zH ?_ GE470.out) | exact HB.out)) hb)
            clear HO_3
            clear HO465
            clear BK449
            clear BK454
            clear BK470
            clear HR477
            clear HB
            have HO_3 := n0_
            have HO465 := n1_
            have HO473 := n2_
            have BK449 := n3_
            have BK454 := n4_
            have BK470 := n5_
            have HR477 := n6_
            have HB := n7_
            clear n0_ n1_ n2_ n3_ n4_ n5_ n6_ n7_
            (try clear hb)
            (try clear hb2)
            (try clear hk)
            (try clear hi)
            (try clear ho0)
            have hcv51 := Kd.C_string (P := Try.prog) (A := Ao8) (c := co8) Try.underlying25 Try.underlying5 Try.underlying9 (by repeat (first | (with_reducible exact HR477.out) | (with_reducible refine zQ ?_ _) | (with_reducible refine zO ?_ _) | (with_reducible refine zP ?_) | exact HR477.out))
            refine hK.out _ _ ⟨(zK BK449.out 0).trans rfl, (zK BK449.out 1).trans rfl, (zK BK449.out 2).trans rfl, Kd.C_string (P := Try.prog) (A := Ao8) (c := co8) Try.underlying25 Try.underlying5 Try.underlying9 (by repeat (first | (with_reducible exact HR477.out) | (with_reducible refine zQ ?_ _) | (with_reducible refine zO ?_ _) | (with_reducible refine zP ?_) | exact HR477.out))⟩ (fun hHeld => ?_)
            clear hK K
            refine norm_ (a' := ?_) ?_ ?_
            rotate_left
            ·
             show Act.put _ (some 47) _ = _
             simp only [Act.put, zA, zB, zC, i64_w, i32_w]
             rfl
            refine one_ (i := 2) (N := some 48) #[tt, tt, tt, tt, tt, tt, tt, ff, ff, ff, ff, ff, ff] rfl rfl (one_of HT_.out (by kernel_rfl)) (by decide) (fun K hK => ?_)
            have hcv50 := own_string (P := Try.prog) Try.underlying25 Try.underlying5 Try.underlying9 (Kd.own_of_R HO473.out)
            refine value_ (w1 := ?_) (v := ?_) (by rfl) rfl ?_ ?_
            rotate_left 2
            ·
             go_simp
             constructor
             ·
              rfl
             ·
              rfl
            clear hcv50
            refine hK.out _ _ ⟨(zK BK449.out 0).trans rfl, (zK BK449.out 1).trans rfl, (zK BK449.out 2).trans rfl, Kd.C_string (P := Try.prog) (A := Ao8) (c := co8) Try.underlying25 Try.underlying5 Try.underlying9 (by repeat (first | (with_reducible exact HR477.out) | (with_reducible refine zQ ?_ _) | (with_reducible refine zO ?_ _) | (with_reducible refine zP ?_) | exact HR477.out))⟩ (fun hHeld => ?_)
            clear hK K
            refine norm_ (a' := ?_) ?_ ?_
            rotate_left
            ·
             show Act.put _ (some 48) _ = _
             simp only [Act.put, zA, zB, zC, i64_w, i32_w]
             rfl
            refine pure_ (i := 7) (N := some 53) (v := ?_) (a' := ?_) #[tt, tt, tt, tt, tt, tt, tt, tt, ff, ff, ff, ff, ff] rfl rfl (any_of HT_.out (by kernel_rfl)) (fun _ _ _ h => h) (Or.inl ⟨by rfl, ?_⟩) ?_ ?_
            rotate_left
            ·
             intro w'
             go_simp
             with_reducible rfl
            rotate_left
            ·
             simp only [Act.put, zA, zB, zC, i64_w, i32_w]
             rfl
            refine pure_ (i := 8) (N := some 54) (v := ?_) (a' := ?_) #[tt, tt, tt, tt, tt, tt, tt, tt, tt, ff, ff, ff, ff] rfl rfl (any_of HT_.out (by kernel_rfl)) (fun _ _ _ h => h) (Or.inl ⟨by rfl, ?_⟩) ?_ ?_
            rotate_left
            ·
             intro w'
             go_simp
             with_reducible rfl
            rotate_left
            ·
             simp only [Act.put, zA, zB, zC, i64_w, i32_w]
             rfl
            refine pure_ (i := 9) (N := some 55) (v := ?_) (a' := ?_) #[tt, tt, tt, tt, tt, tt, tt, tt, tt, tt, ff, ff, ff] rfl rfl (any_of HT_.out (by kernel_rfl)) (fun _ _ _ h => h) (Or.inl ⟨by rfl, ?_⟩) ?_ ?_
            rotate_left
            ·
             intro w'
             go_simp
             with_reducible rfl
            rotate_left
            ·
             simp only [Act.put, zA, zB, zC, i64_w, i32_w]
             rfl
            refine pure_ (i := 10) (N := some 56) (v := ?_) (a' := ?_) #[tt, tt, tt, tt, tt, tt, tt, tt, tt, tt, tt, ff, ff] rfl rfl (any_of HT_.out (by kernel_rfl)) (fun _ _ _ h => h) (Or.inl ⟨by rfl, ?_⟩) ?_ ?_
            rotate_left
            ·
             intro w'
             go_simp
             with_reducible rfl
            rotate_left
            ·
             simp only [Act.put, zA, zB, zC, i64_w, i32_w]
             rfl
            refine pure_ (i := 11) (N := some 57) (v := ?_) (a' := ?_) #[tt, tt, tt, tt, tt, tt, tt, tt, tt, tt, tt, tt, ff] rfl rfl (any_of HT_.out (by kernel_rfl)) (fun _ _ _ h => h) (Or.inl ⟨by rfl, ?_⟩) ?_ ?_
            rotate_left
            ·
             intro w'
             go_simp
             with_reducible rfl
            rotate_left
            ·
             simp only [Act.put, zA, zB, zC, i64_w, i32_w]
             rfl
            refine pure_ (i := 12) (N := some 2) (v := ?_) (a' := ?_) #[tt, tt, tt, tt, tt, tt, tt, tt, tt, tt, tt, tt, tt] rfl rfl (any_of HT_.out (by kernel_rfl)) (fun _ _ _ h => h) (Or.inl ⟨by rfl, ?_⟩) ?_ ?_
            rotate_left
            ·
             intro w'
             go_simp
             with_reducible rfl
            rotate_left
            ·
             simp only [Act.put, zA, zB, zC, i64_w, i32_w]
             rfl
            refine done_ (done_of HT_.out (by kernel_rfl)) ?_
            try go_wp2
            go_ret
            exact ⟨by first | rfl | (simp [errW_none, errW_some] <;> rfl) | (simp only [← hji27]; first | rfl | (simp [errW_none, errW_some] <;> rfl)) | (simp [*, errW_none, errW_some] <;> rfl), by repeat (first | (with_reducible first | exact HB.out | apply zU | apply zV | apply zW | refine zH ?_ GE449.out | refine zH ?_ GE454.out | refine zH ?_ GE470.out) | exact HB.out)⟩
           ·
            rw [if_neg c35] at H
            have c35b0 : ((strOfNums t471).toList == (strOfNums y474).toList) = false := beq_eq_false_iff_ne.mpr c35
            have c35b1 : ((strOfNums t471).toList != (strOfNums y474).toList) = true := bne_iff_ne.mpr c35
            obtain rfl := Option.some.inj H
            try go_wp2_with (first | ((with_reducible refine gate_dst (N := 37) rfl ?_); refine Kd.R_lit (Kd.int .u8) _ 5 ?hg (N := 37) ?hd (xs := ([] : List Int)) (inner := []) (ok := fun _ => True) (okp := fun _ => True) ?hr ?hp (fun _ hk => hk) trivial (Below.refl _ _) (Nat.le_refl _) (by simp) ?_; (case hd => rfl); (case hg => rfl); (case hr => first | (go_simp; done) | (go_simp; rfl)); (case hp => exact (Reps.none _ _)); intro v457 w53 ho54 hb hg_ hnew_; clear hg_ hnew_; (first | rw [← Ny456.out] at ho54 | (simp only [Int.reduceToNat] at ho54; rw [← Ny456.out] at ho54)); have n0_ := zM (Kd.R_elder' (by (with_reducible repeat (first | apply zR | apply zS | apply zT)); exact HO_3.out) (Kd.R_base ho54) hb); have n1_ := zM (Kd.R_lower (Kd.R_new' ho54 (Kd.R_lt (by (with_reducible repeat (first | apply zR | apply zS | apply zT)); exact HO_3.out))) (zI (by repeat (first | (with_reducible first | exact HB.out | apply zU | apply zV | apply zW | refine zH ?_ GE449.out | refine zH ?_ GE454.out) | exact HB.out)))); have n2_ := zM (zJ (g := gb449) (o := .cells #[.int .i64 t445, .int .i64 t446, .string t447] 27 (0, 0)) (by (with_reducible repeat (first | refine zX ?_ _ | refine zY ?_ | refine zZ ?_ _)); exact BK449.out) hb); have n3_ := zM (zJ (g := gb454) (o := .cells #[.int .i64 t450, .int .i64 t451, .string t452] 27 (0, 0)) (by (with_reducible repeat (first | refine zX ?_ _ | refine zY ?_ | refine zZ ?_ _)); exact BK454.out) hb); have n4_ := zM (zG (by repeat (first | (with_reducible first | exact HB.out | apply zU | apply zV | apply zW | refine zH ?_ GE449.out | refine zH ?_ GE454.out) | exact HB.out)) hb); clear HO_3; clear BK449; clear BK454; clear HB; have HO_3 := n0_; have HO458 := n1_; have BK449 := n2_; have BK454 := n3_; have HB := n4_; clear n0_ n1_ n2_ n3_ n4_; clear hb ho54; have q55 : ((ji27) : Int) ≤ ((t442.length : Int) : Int) := zL (by assumption); obtain ⟨i055, hi055, _, hsz55, _⟩ := info_parts info5; have hroom55 : t442.length ≤ co8 := (Kd.R_reads' HO_3.out).2.1; have hC55 : Kd.C (Kd.int .u8) _ Ao8 t442.length t442 := (Kd.R_reads' HO_3.out).2.2; have hcut55 := cut_to (P := Try.prog) 25 5 .i64 Try.underlying25 hi055 Ao8 t442.length co8 (ji27) (zL (by assumption)) q55 hroom55; have hr55 := Kd.C_take (m := ((ji27) : Int).toNat) hC55 (by omega); have hy55 : y459.length = ((ji27) : Int).toNat := (by rw [Ny459.out, List.length_take]; omega); rw [← Ny459.out] at hr55; rw [← hy55] at hcut55; have HR462 := zM hr55; have HC462 := zM (show y459.length ≤ co8 from by omega); clear hr55 hC55 hroom55 hi055 hsz55; have KY55 := zM hy55; clear hy55; have KL55 := zM (show ((ji27) : Int).toNat ≤ t442.length from by omega); replace q55 := eq_true q55) | ((with_reducible refine gate_builtin (b := .append) (xs := #[.tmp 37, .tmp 41]) rfl ?_); at_builtin; refine Kd.R_append_rows (Kd.int .u8) (w0 := w) w.heap.size rfl (.tmp 37) (.tmp 41) 25 5 (.int .u8 0) 1 rfl Try.underlying25 info5 rfl (by decide) (by omega) v457 y456 y459 _ _ _ (fun k_ => some k_ ≠ (.slice Ao8 t442.length co8 : Value).ownBlock) (fun _ => False) rfl rfl ?aO ?aR (fun _ _ h => h) (fun _ h => h.elim) ?aF ?aB ?aS ?aL ?_; (case aR => repeat (first | exact (by repeat (first | (with_reducible exact HR462.out) | (with_reducible refine zQ ?_ _) | (with_reducible refine zO ?_ _) | (with_reducible refine zP ?_) | exact HR462.out)) | (with_reducible refine zQ ?_ _) | (with_reducible refine zO ?_ _) | (with_reducible refine zP ?_))); (case aB => exact (by repeat (first | (with_reducible first | exact HB.out | apply zU | apply zV | apply zW | refine zH ?_ GE449.out | refine zH ?_ GE454.out) | exact HB.out))); (case aF => exact (fun k_ hk => Kd.fresh' (Kd.R_lt (by (with_reducible repeat (first | apply zR | apply zS | apply zT)); exact HO_3.out)) k_ hk)); (case aO => exact (by (with_reducible repeat (first | apply zR | apply zS | apply zT)); exact Kd.R_mono HO458.out (fun _ hk => hk.2))); (case aS => exact (zI (by repeat (first | (with_reducible first | exact HB.out | apply zU | apply zV | apply zW | refine zH ?_ GE449.out | refine zH ?_ GE454.out) | exact HB.out)))); (case aL => have := LMc30.out; omega); intro v464 w56 ho hb hg hat; rw [← Ny463.out] at ho; have n0_ := zM (Kd.R_after (ok := (fun _ => True)) (by (with_reducible repeat (first | apply zR | apply zS | apply zT)); exact HO_3.out) hg hat); have n1_ := zM (blk_grown (g := gb449) (o := .cells #[.int .i64 t445, .int .i64 t446, .string t447] 27 (0, 0)) (by (with_reducible repeat (first | refine zX ?_ _ | refine zY ?_ | refine zZ ?_ _)); exact BK449.out) hg (Kd.R_ne HO458.out BK449.out (by decide))); have n2_ := zM (blk_grown (g := gb454) (o := .cells #[.int .i64 t450, .int .i64 t451, .string t452] 27 (0, 0)) (by (with_reducible repeat (first | refine zX ?_ _ | refine zY ?_ | refine zZ ?_ _)); exact BK454.out) hg (Kd.R_ne HO458.out BK454.out (by decide))); have n3_ := zM (hb); have n4_ := zM ((show Kd.C (Kd.int .u8) w56 Ao8 y459.length y459 from by rw [Ny459.out]; exact Kd.C_take (m := ((ji27) : Int).toNat) ((Kd.R_reads' (Kd.R_after (ok := (fun _ => True)) (by (with_reducible repeat (first | apply zR | apply zS | apply zT)); exact HO_3.out) hg hat)).2.2) KL55.out)); have n5_ := zM (ho); clear HO_3; clear BK449; clear BK454; clear HB; clear HR462; clear HO458; have HO_3 := n0_; have BK449 := n1_; have BK454 := n2_; have HB := n3_; have HR462 := n4_; have HO465 := n5_; clear n0_ n1_ n2_ n3_ n4_ n5_; clear ho hb hg hat; obtain ⟨Ao57, co57, eo57⟩ := Kd.R_slice HO465.out; subst eo57) | ((with_reducible refine gate_callee (f := 26) rfl ?_); refine goesL_ (some 43) rfl rfl Try.func26 (by kernel_rfl) rfl #[.slice Ao57 y463.length co57] rfl (by (try simp only [List.map_toArray, List.map_cons, List.map_nil]); first | done | rfl | (simp only [List.length_drop, List.length_take]; rfl)) ?_; (with_reducible refine (impl_ValueFrom.calls kj5 _ _ y463 t466 t467 t468 t469 _ ?side1 ?side2 A31.out).mono ?_); (case side1 => repeat (first | exact (Kd.R_reads' HO465.out).2.2 | (with_reducible refine zQ ?_ _) | (with_reducible refine zO ?_ _) | (with_reducible refine zP ?_))); (case side2 => exact (Kd.R_reads' HO465.out).2.1); rintro e w58 ⟨rfl, hb⟩; refine ⟨_, rfl, ?_⟩; have n0_ := zM (Kd.R_below (by (with_reducible repeat (first | apply zR | apply zS | apply zT)); exact HO_3.out) hb); have n1_ := zM (Kd.R_below (by (with_reducible repeat (first | apply zR | apply zS | apply zT)); exact HO465.out) hb); have n2_ := zM (zJ (g := gb449) (o := .cells #[.int .i64 t445, .int .i64 t446, .string t447] 27 (0, 0)) (by (with_reducible repeat (first | refine zX ?_ _ | refine zY ?_ | refine zZ ?_ _)); exact BK449.out) hb); have n3_ := zM (zJ (g := gb454) (o := .cells #[.int .i64 t450, .int .i64 t451, .string t452] 27 (0, 0)) (by (with_reducible repeat (first | refine zX ?_ _ | refine zY ?_ | refine zZ ?_ _)); exact BK454.out) hb); have n4_ := zM (Kd.C_below (by repeat (first | (with_reducible exact HR462.out) | (with_reducible refine zQ ?_ _) | (with_reducible refine zO ?_ _) | (with_reducible refine zP ?_) | exact HR462.out)) hb); have n5_ := zM (zG (by repeat (first | (with_reducible first | exact HB.out | apply zU | apply zV | apply zW | refine zH ?_ GE449.out | refine zH ?_ GE454.out) | exact HB.out)) hb); clear HO_3; clear HO465; clear BK449; clear BK454; clear HR462; clear HB; have HO_3 := n0_; have HO465 := n1_; have BK449 := n2_; have BK454 := n3_; have HR462 := n4_; have HB := n5_; clear n0_ n1_ n2_ n3_ n4_ n5_; (try clear hb); (try clear hb2); (try clear hk); (try clear hi)) | ((with_reducible refine gate_dst (N := 8) rfl ?_); refine box_event ?hg (N := 8) ?hd (cs := #[.int .i64 0, .int .i64 0, .string (⟨#[]⟩ : ByteArray)]) (t := 27) ?hr ?_; (case hd => rfl); (case hg => rfl); (case hr => first | (go_simp; done) | (go_simp; rfl)); intro gb470 hg w59 hbox hb; have n0_ := zM (Kd.R_below (by (with_reducible repeat (first | apply zR | apply zS | apply zT)); exact HO_3.out) hb); have n1_ := zM (Kd.R_below (by (with_reducible repeat (first | apply zR | apply zS | apply zT)); exact HO465.out) hb); have n2_ := zM (zJ (g := gb449) (o := .cells #[.int .i64 t445, .int .i64 t446, .string t447] 27 (0, 0)) (by (with_reducible repeat (first | refine zX ?_ _ | refine zY ?_ | refine zZ ?_ _)); exact BK449.out) hb); have n3_ := zM (zJ (g := gb454) (o := .cells #[.int .i64 t450, .int .i64 t451, .string t452] 27 (0, 0)) (by (with_reducible repeat (first | refine zX ?_ _ | refine zY ?_ | refine zZ ?_ _)); exact BK454.out) hb); have n4_ := zM (Kd.C_below (by repeat (first | (with_reducible exact HR462.out) | (with_reducible refine zQ ?_ _) | (with_reducible refine zO ?_ _) | (with_reducible refine zP ?_) | exact HR462.out)) hb); have n5_ := zM (zG (by repeat (first | (with_reducible first | exact HB.out | apply zU | apply zV | apply zW | refine zH ?_ GE449.out | refine zH ?_ GE454.out) | exact HB.out)) hb); have n6_ := zM (hbox); have n7_ := zM ((by rw [hg]; exact (zI (by repeat (first | (with_reducible first | exact HB.out | apply zU | apply zV | apply zW | refine zH ?_ GE449.out | refine zH ?_ GE454.out) | exact HB.out))) : w.heap.size ≤ gb470)); have n8_ := zM ((by rw [hg]; exact (zI (by repeat (first | (with_reducible first | exact HB.out | apply zU | apply zV | apply zW | refine zH ?_ GE449.out | refine zH ?_ GE454.out) | exact HB.out))) : w.heap.size ≤ gb470)); have n9_ := zM ((by rw [hg]; exact Nat.ne_of_lt (blk_lt (g := gb449) (o := .cells #[.int .i64 t445, .int .i64 t446, .string t447] 27 (0, 0)) (by (with_reducible repeat (first | refine zX ?_ _ | refine zY ?_ | refine zZ ?_ _)); exact BK449.out)) : gb449 ≠ gb470)); have n10_ := zM ((by rw [hg]; exact Nat.ne_of_gt (blk_lt (g := gb449) (o := .cells #[.int .i64 t445, .int .i64 t446, .string t447] 27 (0, 0)) (by (with_reducible repeat (first | refine zX ?_ _ | refine zY ?_ | refine zZ ?_ _)); exact BK449.out)) : gb470 ≠ gb449)); have n11_ := zM ((by rw [hg]; exact Nat.ne_of_lt (blk_lt (g := gb454) (o := .cells #[.int .i64 t450, .int .i64 t451, .string t452] 27 (0, 0)) (by (with_reducible repeat (first | refine zX ?_ _ | refine zY ?_ | refine zZ ?_ _)); exact BK454.out)) : gb454 ≠ gb470)); have n12_ := zM ((by rw [hg]; exact Nat.ne_of_gt (blk_lt (g := gb454) (o := .cells #[.int .i64 t450, .int .i64 t451, .string t452] 27 (0, 0)) (by (with_reducible repeat (first | refine zX ?_ _ | refine zY ?_ | refine zZ ?_ _)); exact BK454.out)) : gb470 ≠ gb454)); clear HO_3; clear HO465; clear BK449; clear BK454; clear HR462; clear HB; have HO_3 := n0_; have HO465 := n1_; have BK449 := n2_; have BK454 := n3_; have HR462 := n4_; have HB := n5_; have BK470 := n6_; have GW470 := n7_; have GE470 := n8_; have NB449_470 := n9_; have NB470_449 := n10_; have NB454_470 := n11_; have NB470_454 := n12_; clear n0_ n1_ n2_ n3_ n4_ n5_ n6_ n7_ n8_ n9_ n10_ n11_ n12_; clear hb hbox hg; have hnb60 := NB470_449.out; have hnc60 := NB449_470.out; have hnb61 := NB470_454.out; have hnc61 := NB454_470.out; have hcz62_0 : w59.cell? ⟨gb470, 0, none⟩ = some (.int .i64 0) := (zK BK470.out 0).trans rfl; have hcz62_1 : w59.cell? ⟨gb470, 1, none⟩ = some (.int .i64 0) := (zK BK470.out 1).trans rfl; have hcz62_2 : w59.cell? ⟨gb470, 2, none⟩ = some (.string (⟨#[]⟩ : ByteArray)) := (zK BK470.out 2).trans rfl; have hfz62_0 := zF BK470.out 0; have hfz62_1 := zF BK470.out 1; have hfz62_2 := zF BK470.out 2))
            have n0_ : Aside0 (Kd.R (Kd.int .u8) 5 (((w59.setCell ⟨gb470, 0, none⟩ (.int .i64 t466)).setCell ⟨gb470, 1, none⟩ (.int .i64 t467)).setCell ⟨gb470, 2, none⟩ (.string t468)) w.heap.size (fun k_ => some k_ ≠ (.slice Ao57 y463.length co57 : Value).ownBlock) (.slice Ao8 t442.length co8) t442) := ⟨by (with_reducible repeat (first | apply zR | apply zS | apply zT)); exact Kd.R_mono (Kd.R_far (p := ⟨gb470, 2, none⟩) (Kd.R_far (p := ⟨gb470, 1, none⟩) (Kd.R_far (p := ⟨gb470, 0, none⟩) (Kd.R_types HO_3.out BK470.out (by decide)) (fun _ hk => hk.2) (.int .i64 t466)) (fun _ hk => hk.2) (.int .i64 t467)) (fun _ hk => hk.2) (.string t468)) (fun _ hk => hk.1.2)⟩
            have n1_ : Aside0 (Kd.R (Kd.int .u8) 5 (((w59.setCell ⟨gb470, 0, none⟩ (.int .i64 t466)).setCell ⟨gb470, 1, none⟩ (.int .i64 t467)).setCell ⟨gb470, 2, none⟩ (.string t468)) w.heap.size (fun k_ => some k_ ≠ (.slice Ao8 t442.length co8 : Value).ownBlock) (.slice Ao57 y463.length co57) y463) := ⟨by (with_reducible repeat (first | apply zR | apply zS | apply zT)); exact Kd.R_mono (Kd.R_far (p := ⟨gb470, 2, none⟩) (Kd.R_far (p := ⟨gb470, 1, none⟩) (Kd.R_far (p := ⟨gb470, 0, none⟩) (Kd.R_types HO465.out BK470.out (by decide)) (fun _ hk => hk.2) (.int .i64 t466)) (fun _ hk => hk.2) (.int .i64 t467)) (fun _ hk => hk.2) (.string t468)) (fun _ hk => hk.1)⟩
            have n2_ : Aside0 ((((w59.setCell ⟨gb470, 0, none⟩ (.int .i64 t466)).setCell ⟨gb470, 1, none⟩ (.int .i64 t467)).setCell ⟨gb470, 2, none⟩ (.string t468)).heap[gb449]? = some (.cells #[.int .i64 t445, .int .i64 t446, .string t447] 27 (0, 0))) := ⟨by (with_reducible repeat (first | refine zX ?_ _ | refine zY ?_ | refine zZ ?_ _)); refine blk_far ?_ NB449_470.out _; (with_reducible repeat (first | refine zX ?_ _ | refine zY ?_ | refine zZ ?_ _)); refine blk_far ?_ NB449_470.out _; (with_reducible repeat (first | refine zX ?_ _ | refine zY ?_ | refine zZ ?_ _)); refine blk_far ?_ NB449_470.out _; (with_reducible repeat (first | refine zX ?_ _ | refine zY ?_ | refine zZ ?_ _)); exact BK449.out⟩
            have n3_ : Aside0 ((((w59.setCell ⟨gb470, 0, none⟩ (.int .i64 t466)).setCell ⟨gb470, 1, none⟩ (.int .i64 t467)).setCell ⟨gb470, 2, none⟩ (.string t468)).heap[gb454]? = some (.cells #[.int .i64 t450, .int .i64 t451, .string t452] 27 (0, 0))) := ⟨by (with_reducible repeat (first | refine zX ?_ _ | refine zY ?_ | refine zZ ?_ _)); refine blk_far ?_ NB454_470.out _; (with_reducible repeat (first | refine zX ?_ _ | refine zY ?_ | refine zZ ?_ _)); refine blk_far ?_ NB454_470.out _; (with_reducible repeat (first | refine zX ?_ _ | refine zY ?_ | refine zZ ?_ _)); refine blk_far ?_ NB454_470.out _; (with_reducible repeat (first | refine zX ?_ _ | refine zY ?_ | refine zZ ?_ _)); exact BK454.out⟩
            have n4_ : Aside0 ((((w59.setCell ⟨gb470, 0, none⟩ (.int .i64 t466)).setCell ⟨gb470, 1, none⟩ (.int .i64 t467)).setCell ⟨gb470, 2, none⟩ (.string t468)).heap[gb470]? = some (.cells #[.int .i64 t466, .int .i64 t467, .string t468] 27 (0, 0))) := ⟨by (with_reducible repeat (first | refine zX ?_ _ | refine zY ?_ | refine zZ ?_ _)); refine blk_put (cs := #[.int .i64 t466, .int .i64 t467, .string (⟨#[]⟩ : ByteArray)]) ?_ 2 _ rfl; (with_reducible repeat (first | refine zX ?_ _ | refine zY ?_ | refine zZ ?_ _)); refine blk_put (cs := #[.int .i64 t466, .int .i64 0, .string (⟨#[]⟩ : ByteArray)]) ?_ 1 _ rfl; (with_reducible repeat (first | refine zX ?_ _ | refine zY ?_ | refine zZ ?_ _)); refine blk_put (cs := #[.int .i64 0, .int .i64 0, .string (⟨#[]⟩ : ByteArray)]) ?_ 0 _ rfl; (with_reducible repeat (first | refine zX ?_ _ | refine zY ?_ | refine zZ ?_ _)); exact BK470.out⟩
            have n5_ : Aside0 (Below w.heap.size w (((w59.setCell ⟨gb470, 0, none⟩ (.int .i64 t466)).setCell ⟨gb470, 1, none⟩ (.int .i64 t467)).setCell ⟨gb470, 2, none⟩ (.string t468))) := ⟨by repeat (first | (with_reducible first | exact HB.out | apply zU | apply zV | apply zW | refine zH ?_ GE449.out | refine zH ?_ GE454.out | refine zH ?_ GE470.out) | exact HB.out)⟩
            (try clear HO_3)
            (try clear HO465)
            (try clear BK449)
            (try clear BK454)
            (try clear BK470)
            (try clear HB)
            generalize (((w59.setCell ⟨gb470, 0, none⟩ (.int .i64 t466)).setCell ⟨gb470, 1, none⟩ (.int .i64 t467)).setCell ⟨gb470, 2, none⟩ (.string t468)) = w63 at n0_ n1_ n2_ n3_ n4_ n5_ ⊢
            have HO_3 := n0_
            have HO465 := n1_
            have BK449 := n2_
            have BK454 := n3_
            have BK470 := n4_
            have HB := n5_
            clear n0_ n1_ n2_ n3_ n4_ n5_
            have n0_ := zM (zT HO_3.out)
            have n1_ := zM (zT HO465.out)
            have n2_ := zM (zY BK449.out)
            have n3_ := zM (zY BK454.out)
            have n4_ := zM (zY BK470.out)
            have n5_ := zM (zW HB.out)
            clear HO_3
            clear HO465
            clear BK449
            clear BK454
            clear BK470
            clear HB
            have HO_3 := n0_
            have HO465 := n1_
            have BK449 := n2_
            have BK454 := n3_
            have BK470 := n4_
            have HB := n5_
            clear n0_ n1_ n2_ n3_ n4_ n5_
            have q65 : (t448 : Int) ≤ ((t442.length : Int) : Int) := zL (by assumption)
            obtain ⟨i065, hi065, _, hsz65, _⟩ := info_parts info5
            have hroom65 : t442.length ≤ co8 := (Kd.R_reads' HO_3.out).2.1
            have hC65 : Kd.C (Kd.int .u8) _ Ao8 t442.length t442 := (Kd.R_reads' HO_3.out).2.2
            have hcut65 := cut_to (P := Try.prog) 25 5 .i64 Try.underlying25 hi065 Ao8 t442.length co8 t448 (zL (by assumption)) q65 hroom65
            have hr65 := Kd.C_take (m := (t448 : Int).toNat) hC65 (by omega)
            have hy65 : y474.length = (t448 : Int).toNat := (by rw [Ny474.out, List.length_take]; omega)
            rw [← Ny474.out] at hr65
            rw [← hy65] at hcut65
            have HR477 := zM hr65
            have HC477 := zM (show y474.length ≤ co8 from by omega)
            clear hr65 hC65 hroom65 hi065 hsz65
            have KY65 := zM hy65
            clear hy65
            have KL65 := zM (show (t448 : Int).toNat ≤ t442.length from by omega)
            replace q65 := eq_true q65
            refine start_ (n := 13) (S := fun w' => w'.cell? ⟨gb449, 0, none⟩ = some (.int .i64 t445) ∧ w'.cell? ⟨gb449, 1, none⟩ = some (.int .i64 t446) ∧ w'.cell? ⟨gb449, 2, none⟩ = some (.string t447) ∧ (convert 25 9 (.slice Ao8 y474.length co8)).run Try.prog w' = .ok (.string (strOfNums y474)) w') (ds := []) #[ff, ff, ff, ff, ff, ff, ff, ff, ff, ff, ff, ff, ff] (by kernel_rfl) rfl rfl ⟨(zK BK449.out 0).trans rfl, (zK BK449.out 1).trans rfl, (zK BK449.out 2).trans rfl, Kd.C_string (P := Try.prog) (A := Ao8) (c := co8) Try.underlying25 Try.underlying5 Try.underlying9 (by repeat (first | (with_reducible exact HR477.out) | (with_reducible refine zQ ?_ _) | (with_reducible refine zO ?_ _) | (with_reducible refine zP ?_) | exact HR477.out))⟩ (fun hHeld => ?_); refine with_tabW laws_FnValueFrom.tab11 laws_FnValueFrom.bits11 (fun HT_ HW_ => ?_)
            generalize w63.drew = w64 at HO_3 HO465 BK449 BK454 BK470 HB HR477 hHeld ⊢
            refine pure_ (i := 3) (N := some 49) (v := ?_) (a' := ?_) #[ff, ff, ff, tt, ff, ff, ff, ff, ff, ff, ff, ff, ff] rfl rfl (any_of HT_.out (by kernel_rfl)) (fun _ _ _ h => h) (Or.inl ⟨by rfl, ?_⟩) ?_ ?_
            rotate_left
            ·
             intro w'
             go_simp
             with_reducible rfl
            rotate_left
            ·
             simp only [Act.put, zA, zB, zC, i64_w, i32_w]
             rfl
            refine pure_ (i := 4) (N := some 50) (v := ?_) (a' := ?_) #[ff, ff, ff, tt, tt, ff, ff, ff, ff, ff, ff, ff, ff] rfl rfl (any_of HT_.out (by kernel_rfl)) (fun _ _ _ h => h) (Or.inl ⟨by rfl, ?_⟩) ?_ ?_
            rotate_left
            ·
             intro w'
             go_simp
             with_reducible rfl
            rotate_left
            ·
             simp only [Act.put, zA, zB, zC, i64_w, i32_w]
             rfl
            refine pure_ (i := 5) (N := some 51) (v := ?_) (a' := ?_) #[ff, ff, ff, tt, tt, tt, ff, ff, ff, ff, ff, ff, ff] rfl rfl (any_of HT_.out (by kernel_rfl)) (fun _ _ _ h => h) (Or.inl ⟨by rfl, ?_⟩) ?_ ?_
            rotate_left
            ·
             intro w'
             go_simp
             with_reducible rfl
            rotate_left
            ·
             simp only [Act.put, zA, zB, zC, i64_w, i32_w]
             rfl
            refine take_ (i := 6) (N := some 52) (v := ?_) (a' := ?_) #[ff, ff, ff, tt, tt, tt, tt, ff, ff, ff, ff, ff, ff] rfl rfl (take_ofW HT_.out HW_.out (by kernel_rfl)) (fun _ _ _ h => h) (Or.inl ⟨by rfl, ?_⟩) hHeld ?_ ?_
            rotate_left
            ·
             rintro w' ⟨s0, s1, s2, s3⟩
             go_simp
             with_reducible rfl
            rotate_left
            ·
             simp only [Act.put, zA, zB, zC, i64_w, i32_w]
             rfl
            refine take_ (i := 0) (N := some 46) (v := ?_) (a' := ?_) #[tt, ff, ff, tt, tt, tt, tt, ff, ff, ff, ff, ff, ff] rfl rfl (take_ofW HT_.out HW_.out (by kernel_rfl)) (fun _ _ _ h => h) (Or.inl ⟨by rfl, ?_⟩) hHeld ?_ ?_
            rotate_left
            ·
             rintro w' ⟨s0, s1, s2, s3⟩
             go_simp
             with_reducible rfl
            rotate_left
            ·
             simp only [Act.put, zA, zB, zC, i64_w, i32_w]
             rfl
            refine one_ (i := 1) (N := some 47) #[tt, tt, ff, tt, tt, tt, tt, ff, ff, ff, ff, ff, ff] rfl rfl (one_of HT_.out (by kernel_rfl)) (by decide) (fun K hK => ?_)
            refine goes_ Try.func18 (by kernel_rfl) rfl #[.agg #[.int .i64 t445, .int .i64 t446, .string t447]] (by rfl) rfl rfl (by (try simp only [List.map_toArray, List.map_cons, List.map_nil]); first | done | rfl | (simp only [List.length_drop, List.length_take]; rfl)) ?_
            with_reducible refine (impl_ValueBytes.calls t445 t446 t447 t471 _ A32.out).mono ?_
            rintro e w66 ⟨v472, rfl, ho0, hb⟩
            refine ⟨_, rfl, ?_⟩
            have n0_ := zM (Kd.R_elder' (by (with_reducible repeat (first | apply zR | apply zS | apply zT)); exact HO_3.out) (Kd.R_base ho0) hb)
            have n1_ := zM (Kd.R_elder' (by (with_reducible repeat (first | apply zR | apply zS | apply zT)); exact HO465.out) (Kd.R_base ho0) hb)
            have n2_ := zM (Kd.R_lower (Kd.R_new' (Kd.R_new' ho0 (Kd.R_lt (by (with_reducible repeat (first | apply zR | apply zS | apply zT)); exact HO_3.out))) (Kd.R_lt (by (with_reducible repeat (first | apply zR | apply zS | apply zT)); exact HO465.out))) (zI (by repeat (first | (with_reducible first | exact HB.out | apply zU | apply zV | apply zW | refine zH ?_ GE449.out | refine zH ?_ GE454.out | refine zH ?_ GE470.out) | exact HB.out))))
            have n3_ := zM (zJ (g := gb449) (o := .cells #[.int .i64 t445, .int .i64 t446, .string t447] 27 (0, 0)) (by (with_reducible repeat (first | refine zX ?_ _ | refine zY ?_ | refine zZ ?_ _)); exact BK449.out) hb)
            have n4_ := zM (zJ (g := gb454) (o := .cells #[.int .i64 t450, .int .i64 t451, .string t452] 27 (0, 0)) (by (with_reducible repeat (first | refine zX ?_ _ | refine zY ?_ | refine zZ ?_ _)); exact BK454.out) hb)
            have n5_ := zM (zJ (g := gb470) (o := .cells #[.int .i64 t466, .int .i64 t467, .string t468] 27 (0, 0)) (by (with_reducible repeat (first | refine zX ?_ _ | refine zY ?_ | refine zZ ?_ _)); exact BK470.out) hb)
            have n6_ := zM (Kd.C_below (by repeat (first | (with_reducible exact HR477.out) | (with_reducible refine zQ ?_ _) | (with_reducible refine zO ?_ _) | (with_reducible refine zP ?_) | exact HR477.out)) hb)
            have n7_ := zM (zG (by repeat (first | (with_reducible first | exact HB.out | apply zU | apply zV | apply zW | refine zH ?_ GE449.out | refine zH ?_ GE454.out | refine zH ?_ GE470.out) | exact HB.out)) hb)
            clear HO_3
            clear HO465
            clear BK449
            clear BK454
            clear BK470
            clear HR477
            clear HB
            have HO_3 := n0_
            have HO465 := n1_
            have HO473 := n2_
            have BK449 := n3_
            have BK454 := n4_
            have BK470 := n5_
            have HR477 := n6_
            have HB := n7_
            clear n0_ n1_ n2_ n3_ n4_ n5_ n6_ n7_
            (try clear hb)
            (try clear hb2)
            (try clear hk)
            (try clear hi)
            (try clear ho0)
            have hcv68 := Kd.C_string (P := Try.prog) (A := Ao8) (c := co8) Try.underlying25 Try.underlying5 Try.underlying9 (by repeat (first | (with_reducible exact HR477.out) | (with_reducible refine zQ ?_ _) | (with_reducible refine zO ?_ _) | (with_reducible refine zP ?_) | exact HR477.out))
            refine hK.out _ _ ⟨(zK BK449.out 0).trans rfl, (zK BK449.out 1).trans rfl, (zK BK449.out 2).trans rfl, Kd.C_string (P := Try.prog) (A := Ao8) (c := co8) Try.underlying25 Try.underlying5 Try.underlying9 (by repeat (first | (with_reducible exact HR477.out) | (with_reducible refine zQ ?_ _) | (with_reducible refine zO ?_ _) | (with_reducible refine zP ?_) | exact HR477.out))⟩ (fun hHeld => ?_)
            clear hK K
            refine norm_ (a' := ?_) ?_ ?_
            rotate_left
            ·
             show Act.put _ (some 47) _ = _
             simp only [Act.put, zA, zB, zC, i64_w, i32_w]
             rfl
            refine one_ (i := 2) (N := some 48) #[tt, tt, tt, tt, tt, tt, tt, ff, ff, ff, ff, ff, ff] rfl rfl (one_of HT_.out (by kernel_rfl)) (by decide) (fun K hK => ?_)
            have hcv67 := own_string (P := Try.prog) Try.underlying25 Try.underlying5 Try.underlying9 (Kd.own_of_R HO473.out)
            refine value_ (w1 := ?_) (v := ?_) (by rfl) rfl ?_ ?_
            rotate_left 2
            ·
             go_simp
             constructor
             ·
              rfl
             ·
              rfl
            clear hcv67
            refine hK.out _ _ ⟨(zK BK449.out 0).trans rfl, (zK BK449.out 1).trans rfl, (zK BK449.out 2).trans rfl, Kd.C_string (P := Try.prog) (A := Ao8) (c := co8) Try.underlying25 Try.underlying5 Try.underlying9 (by repeat (first | (with_reducible exact HR477.out) | (with_reducible refine zQ ?_ _) | (with_reducible refine zO ?_ _) | (with_reducible refine zP ?_) | exact HR477.out))⟩ (fun hHeld => ?_)
            clear hK K
            refine norm_ (a' := ?_) ?_ ?_
            rotate_left
            ·
             show Act.put _ (some 48) _ = _
             simp only [Act.put, zA, zB, zC, i64_w, i32_w]
             rfl
            refine pure_ (i := 7) (N := some 53) (v := ?_) (a' := ?_) #[tt, tt, tt, tt, tt, tt, tt, tt, ff, ff, ff, ff, ff] rfl rfl (any_of HT_.out (by kernel_rfl)) (fun _ _ _ h => h) (Or.inl ⟨by rfl, ?_⟩) ?_ ?_
            rotate_left
            ·
             intro w'
             go_simp
             with_reducible rfl
            rotate_left
            ·
             simp only [Act.put, zA, zB, zC, i64_w, i32_w]
             rfl
            refine pure_ (i := 8) (N := some 54) (v := ?_) (a' := ?_) #[tt, tt, tt, tt, tt, tt, tt, tt, tt, ff, ff, ff, ff] rfl rfl (any_of HT_.out (by kernel_rfl)) (fun _ _ _ h => h) (Or.inl ⟨by rfl, ?_⟩) ?_ ?_
            rotate_left
            ·
             intro w'
             go_simp
             with_reducible rfl
            rotate_left
            ·
             simp only [Act.put, zA, zB, zC, i64_w, i32_w]
             rfl
            refine pure_ (i := 9) (N := some 55) (v := undef) (a' := ?_) #[tt, tt, tt, tt, tt, tt, tt, tt, tt, tt, ff, ff, ff] rfl rfl (any_of HT_.out (by kernel_rfl)) (fun _ _ _ h => h) (Or.inr ⟨by rfl, rfl⟩) ?_ ?_
            rotate_left
            ·
             simp only [Act.put, zA, zB, zC, i64_w, i32_w]
             rfl
            refine pure_ (i := 10) (N := some 56) (v := undef) (a' := ?_) #[tt, tt, tt, tt, tt, tt, tt, tt, tt, tt, tt, ff, ff] rfl rfl (any_of HT_.out (by kernel_rfl)) (fun _ _ _ h => h) (Or.inr ⟨by rfl, rfl⟩) ?_ ?_
            rotate_left
            ·
             simp only [Act.put, zA, zB, zC, i64_w, i32_w]
             rfl
            refine pure_ (i := 11) (N := some 57) (v := ?_) (a' := ?_) #[tt, tt, tt, tt, tt, tt, tt, tt, tt, tt, tt, tt, ff] rfl rfl (any_of HT_.out (by kernel_rfl)) (fun _ _ _ h => h) (Or.inl ⟨by rfl, ?_⟩) ?_ ?_
            rotate_left
            ·
             intro w'
             go_simp
             with_reducible rfl
            rotate_left
            ·
             simp only [Act.put, zA, zB, zC, i64_w, i32_w]
             rfl
            refine pure_ (i := 12) (N := some 2) (v := ?_) (a' := ?_) #[tt, tt, tt, tt, tt, tt, tt, tt, tt, tt, tt, tt, tt] rfl rfl (any_of HT_.out (by kernel_rfl)) (fun _ _ _ h => h) (Or.inl ⟨by rfl, ?_⟩) ?_ ?_
            rotate_left
            ·
             intro w'
             go_simp
             with_reducible rfl
            rotate_left
            ·
             simp only [Act.put, zA, zB, zC, i64_w, i32_w]
             rfl
            refine done_ (done_of HT_.out (by kernel_rfl)) ?_
            try go_wp2
            go_ret
            exact ⟨by first | rfl | (simp [errW_none, errW_some] <;> rfl) | (simp only [← hji27]; first | rfl | (simp [errW_none, errW_some] <;> rfl)) | (simp [*, errW_none, errW_some] <;> rfl), by repeat (first | (with_reducible first | exact HB.out | apply zU | apply zV | apply zW | refine zH ?_ GE449.out | refine zH ?_ GE454.out | refine zH ?_ GE470.out) | exact HB.out)⟩
          ·
           rw [if_neg c34] at H
           exact absurd H (by simp)
         ·
          rw [if_neg c33] at H
          exact absurd H (by simp)
        ·
         rw [if_neg c30] at H
         exact absurd H (by simp)
       ·
        rw [if_neg c29] at H
        exact absurd H (by simp)
      ·
       rw [if_neg c28] at H
       exact absurd H (by simp)

/-- THE ONE PURE STATEMENT of laws_FnValueFrom. -/
def laws_FnValueFrom.Pure : Prop := ∀ (l0 : List Int), ((l0.length ≤ maxLen ∧ ∀ y2_ ∈ l0, (Lit.int .u8 y2_).wf = true)) → ∃ k, laws_FnValueFrom.f k l0 = some true
end

end Go.Proofs.Ytdgikheibcmcjaa.X
