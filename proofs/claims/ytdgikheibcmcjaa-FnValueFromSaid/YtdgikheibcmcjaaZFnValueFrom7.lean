/- Plain functions for the Go functions of this seat, and proofs that each call answers as its plain function does; made by this session's program over the kit's printer. -/
import Derived.Test.YtdgikheibcmcjaaUX0
import Derived.Test.YtdgikheibcmcjaaZFnValueFrom6
namespace Go.Proofs.Ytdgikheibcmcjaa.X
open Go.RowKit Go.Proofs.YtdgikheibcmcjaaV.PrintWords Go.Proofs.YtdgikheibcmcjaaV.PrintLast Go.Proofs.YtdgikheibcmcjaaV.PrintMore
attribute [local go_sem] max2_int min2_int max_two min_two max_three min_three max_four min_four   -- for this text's walks alone
set_option linter.unusedVariables false
set_option linter.unusedSimpArgs false

open Go.Proofs.YtdgikheibcmcjaaV.PrintWords renaming below_alloc → zU, pw_below_drewN → zV, below_drew1 → zW, blk_drewN → zX, blk_drew → zY, blk_alloc → zZ, blk_frozen → zF, blk_cell → zK, below_step → zG, below_set → zH, below_size → zI, blk_below → zJ
open Go.Proofs.YtdgikheibcmcjaaV.PrintWords.Kd renaming R_alloc → zR, R_drewN → zS, R_drew → zT, C_alloc → zQ, C_drewN → zO, C_drew → zP
section
/-! ### spec_l20Open: function 56 -/
def spec_l20Open.f (l0 : List Int) : Option (List Int × Int) := if (l0.length : Int) > 2000 then (if 2000 ≤ (l0.length : Int) then (some (l0.take 2000, 0)) else (none)) else (some (l0, 0))
set_option maxHeartbeats 8000000 in
set_option maxRecDepth 100000 in
theorem spec_l20Open.calls (A0 : Option Addr) (c0 : Nat) (l0 : List Int) (r1 : List Int) (r2 : Int) (w0 w : World) (hB : Below w0.heap.size w0 w) (hr0 : Kd.C (Kd.int .u8) w0 A0 l0.length l0) (hc0 : l0.length ≤ c0) (h : spec_l20Open.f l0 = some (r1, r2)) :
  Calls Try.prog 56 #[.slice A0 l0.length c0] w fun e w' => ∃ g_ : Nat, e = .returned (.pointer (some ⟨g_, 0, none⟩)) ∧ IsS69 w0 w' g_ r1 r2 ∧ Below w0.heap.size w0 w' ∧ Below w.heap.size w w' := by
 have hu69 := Try.underlying69
 have HR0 := zM hr0
 have HC0 := zM hc0
 clear hr0 hc0
 have HBW := zM (Below.refl w.heap.size w)
 have HW0 := zM hB.size
 have HB := zM hB
 clear hB
 have H : (if (l0.length : Int) > 2000 then (if 2000 ≤ (l0.length : Int) then (some (l0.take 2000, 0)) else (none)) else (some (l0, 0))) = some (r1, r2) := h
 clear h
 by_cases c2 : (l0.length : Int) > 2000
 ·
  rw [if_pos c2] at H
  have c2b0 : decide (2000 < (l0.length : Int)) = true := decide_eq_true c2
  have c2b1 : decide (2000 < l0.length) = true := decide_eq_true (by omega)
  clear c2
  by_cases c3 : 2000 ≤ (l0.length : Int)
  ·
   rw [if_pos c3] at H
   have c3b0 := eq_true c3
   have c3b1 : decide (2000 ≤ (l0.length : Int)) = true := decide_eq_true c3
   clear c3
   simp only [Option.some.injEq, Prod.mk.injEq] at H
   obtain ⟨rfl, rfl⟩ := H
   obtain ⟨i04, hi04, _, hsz4, _⟩ := info_parts info5
   obtain ⟨hcut4, hA4, hC4⟩ := print_take_of (P := Try.prog) (Value.int .u8) 0 25 5 .i64 Try.underlying25 hi04 hsz4 A0 c0 l0 2000 (by omega) (zL (by assumption)) HC0.out
   have HR329 := zM (Kd.C_of_reads (h1 := fun _ => rfl) (hA4 _ (Kd.reads_of_C HR0.out)))
   have HC329 := zM hC4
   clear hA4 hC4 hi04 hsz4
   go_enter Try.func56, Try.ntmps56
   go_wp2_with (first | ((with_reducible refine gate_dst (N := 10) rfl ?_); refine box_event ?hg (N := 10) ?hd (cs := #[.slice A0 (l0.take 2000).length c0, .int .i64 0]) (t := 69) ?hr ?_; (case hd => rfl); (case hg => rfl); (case hr => first | (go_simp; done) | (go_simp; rfl)); intro gb330 hg w5 hbox hb; have n0_ := zM (zG HBW.out hb); have n1_ := zM (zG (by repeat (first | (with_reducible first | exact HB.out | apply zU | apply zV | apply zW) | exact HB.out)) hb); have n2_ := zM (hbox); have n3_ := zM ((by rw [hg]; exact (zI (by repeat (first | (with_reducible first | exact HBW.out | apply zU | apply zV | apply zW) | exact HBW.out))) : w.heap.size ≤ gb330)); have n4_ := zM ((Nat.le_trans HW0.out (by rw [hg]; exact (zI (by repeat (first | (with_reducible first | exact HBW.out | apply zU | apply zV | apply zW) | exact HBW.out))) : w.heap.size ≤ gb330) : w0.heap.size ≤ gb330)); clear HBW; clear HB; have HBW := n0_; have HB := n1_; have BK330 := n2_; have GW330 := n3_; have GE330 := n4_; clear n0_ n1_ n2_ n3_ n4_; clear hb hbox hg))
   go_ret
   exact ⟨_, rfl, (show IsS69 w0 _ gb330 (l0.take 2000) 0 from ⟨_, _, by (with_reducible repeat (first | refine zX ?_ _ | refine zY ?_ | refine zZ ?_ _)); exact BK330.out, GE330.out, HR329.out⟩), by repeat (first | (with_reducible first | exact HB.out | apply zU | apply zV | apply zW | refine zH ?_ GE330.out) | exact HB.out), by repeat (first | (with_reducible first | exact HBW.out | apply zU | apply zV | apply zW | refine zH ?_ GW330.out) | exact HBW.out)⟩
  ·
   rw [if_neg c3] at H
   exact absurd H (by simp)
 ·
  rw [if_neg c2] at H
  have c2b0 : decide (2000 < (l0.length : Int)) = false := decide_eq_false c2
  have c2b1 : decide (2000 < l0.length) = false := decide_eq_false (by omega)
  clear c2
  simp only [Option.some.injEq, Prod.mk.injEq] at H
  obtain ⟨rfl, rfl⟩ := H
  go_enter Try.func56, Try.ntmps56
  go_wp2_with (first | ((with_reducible refine gate_dst (N := 10) rfl ?_); refine box_event ?hg (N := 10) ?hd (cs := #[.slice A0 l0.length c0, .int .i64 0]) (t := 69) ?hr ?_; (case hd => rfl); (case hg => rfl); (case hr => first | (go_simp; done) | (go_simp; rfl)); intro gb331 hg w6 hbox hb; have n0_ := zM (zG HBW.out hb); have n1_ := zM (zG (by repeat (first | (with_reducible first | exact HB.out | apply zU | apply zV | apply zW) | exact HB.out)) hb); have n2_ := zM (hbox); have n3_ := zM ((by rw [hg]; exact (zI (by repeat (first | (with_reducible first | exact HBW.out | apply zU | apply zV | apply zW) | exact HBW.out))) : w.heap.size ≤ gb331)); have n4_ := zM ((Nat.le_trans HW0.out (by rw [hg]; exact (zI (by repeat (first | (with_reducible first | exact HBW.out | apply zU | apply zV | apply zW) | exact HBW.out))) : w.heap.size ≤ gb331) : w0.heap.size ≤ gb331)); clear HBW; clear HB; have HBW := n0_; have HB := n1_; have BK331 := n2_; have GW331 := n3_; have GE331 := n4_; clear n0_ n1_ n2_ n3_ n4_; clear hb hbox hg))
  go_ret
  exact ⟨_, rfl, (show IsS69 w0 _ gb331 l0 0 from ⟨_, _, by (with_reducible repeat (first | refine zX ?_ _ | refine zY ?_ | refine zZ ?_ _)); exact BK331.out, GE331.out, HR0.out⟩), by repeat (first | (with_reducible first | exact HB.out | apply zU | apply zV | apply zW | refine zH ?_ GE331.out) | exact HB.out), by repeat (first | (with_reducible first | exact HBW.out | apply zU | apply zV | apply zW | refine zH ?_ GW331.out) | exact HBW.out)⟩
end

section
/-! ### spec_DrawValueFrom: function 42 -/
mutual
def spec_DrawValueFrom.l0 : Nat → List Int → Int → List Int → Int → Option (List Int)
 | 0, _, _, _, _ => none
 | k + 1, x4, x5, x396000, x396001 => if x5 > 0 then ((spec_l20Rd_pick.f k x396000 x396001 256).bind fun bt405 => (if x4.length < 140737488355328 then (spec_DrawValueFrom.l0 k (x4 ++ [(bt405.1) % 256]) (wrap64 (x5 - 1)) x396000 bt405.2) else (none))) else (if (x4.length : Int) > 0 then ((spec_l20Rd_pick.f k x396000 x396001 4).bind fun bt410 => (spec_DrawValueFrom.j1 k x4 (bt410.1 == 0) x396000 bt410.2)) else (spec_DrawValueFrom.j1 k x4 false x396000 x396001))
def spec_DrawValueFrom.j1 : Nat → List Int → Bool → List Int → Int → Option (List Int)
 | 0, _, _, _, _ => none
 | k + 1, x4, x30, x396000, x396001 => if x30 = true then ((spec_l20Rd_pick.f k x396000 x396001 (x4.length : Int)).bind fun bt412 => ((spec_l20Rd_pick.f k x396000 bt412.2 256).bind fun bt414 => (if 0 ≤ bt412.1 then (if bt412.1 < (x4.length : Int) then (spec_DrawValueFrom.j2 k (x4.set (bt412.1 : Int).toNat ((bt414.1) % 256)) x396000 bt414.2) else (none)) else (none)))) else (spec_DrawValueFrom.j2 k x4 x396000 x396001)
def spec_DrawValueFrom.j2 : Nat → List Int → List Int → Int → Option (List Int)
 | 0, _, _, _ => none
 | k + 1, x4, x396000, x396001 => if (x4.length : Int) > 0 then ((spec_l20Rd_pick.f k x396000 x396001 5).bind fun bt417 => (if bt417.1 = 0 then ((spec_l20Rd_pick.f k x396000 bt417.2 (x4.length : Int)).bind fun bt419 => (if 0 ≤ bt419.1 then (if bt419.1 ≤ (x4.length : Int) then ((some (x4.take (bt419.1 : Int).toNat : List Int)).bind fun y421 => ((some (([] : List Int) : List Int)).bind fun y424 => (if y424.length + y421.length < 140737488355328 then (some (y424 ++ y421)) else (none)))) else (none)) else (none))) else ((some (([] : List Int) : List Int)).bind fun y430 => (if y430.length + x4.length < 140737488355328 then (some (y430 ++ x4)) else (none))))) else ((some (([] : List Int) : List Int)).bind fun y436 => (if y436.length + x4.length < 140737488355328 then (some (y436 ++ x4)) else (none)))
end
def spec_DrawValueFrom.f (k : Nat) (l0 : List Int) : Option (List Int) := (spec_l20Open.f l0).bind fun bt393 => ((spec_l20Value.f k bt393.1 bt393.2 30).bind fun bt396 => ((spec_ValueBytes.f k bt396.1 bt396.2.1 bt396.2.2.1).bind fun t400 => ((spec_l20Rd_pick.f k bt393.1 bt396.2.2.2 3).bind fun bt403 => (spec_DrawValueFrom.l0 k t400 bt403.1 bt393.1 bt403.2))))
theorem spec_DrawValueFrom.mono_l : ∀ k, (∀ y0 y1 y2 y3, LeO (spec_DrawValueFrom.l0 k y0 y1 y2 y3) (spec_DrawValueFrom.l0 (k + 1) y0 y1 y2 y3)) ∧ (∀ y0 y1 y2 y3, LeO (spec_DrawValueFrom.j1 k y0 y1 y2 y3) (spec_DrawValueFrom.j1 (k + 1) y0 y1 y2 y3)) ∧ (∀ y0 y1 y2, LeO (spec_DrawValueFrom.j2 k y0 y1 y2) (spec_DrawValueFrom.j2 (k + 1) y0 y1 y2))
 | 0 => ⟨fun _ _ _ _ r h => by simp [spec_DrawValueFrom.l0] at h, fun _ _ _ _ r h => by simp [spec_DrawValueFrom.j1] at h, fun _ _ _ r h => by simp [spec_DrawValueFrom.j2] at h⟩
 | k + 1 => by
  obtain ⟨ih0, ih1, ih2⟩ := spec_DrawValueFrom.mono_l k
  refine ⟨?_, ?_, ?_⟩
  ·
   intro y0 y1 y2 y3
   unfold spec_DrawValueFrom.l0
   repeat' first
   | (with_reducible exact ih0 _ _ _ _)
   | (with_reducible exact ih1 _ _ _ _)
   | (with_reducible exact ih2 _ _ _)
   | (with_reducible exact spec_ValueBytes.mono _ _ _ _)
   | (with_reducible exact spec_l20Rd_pick.mono _ _ _ _)
   | (with_reducible exact spec_l20Value.mono _ _ _ _)
   | (with_reducible exact LeO.refl _)
   | (with_reducible exact LeO.none _)
   | (with_reducible refine LeO.ite ?_ ?_)
   | (with_reducible refine LeO.bind ?_ (fun _ => ?_))
   | exact ih0 _ _ _ _
   | exact ih1 _ _ _ _
   | exact ih2 _ _ _
   | exact spec_ValueBytes.mono _ _ _ _
   | exact spec_l20Rd_pick.mono _ _ _ _
   | exact spec_l20Value.mono _ _ _ _
   | exact LeO.none _
   | refine LeO.ite ?_ ?_
   | refine LeO.bind ?_ (fun _ => ?_)
  ·
   intro y0 y1 y2 y3
   unfold spec_DrawValueFrom.j1
   repeat' first
   | (with_reducible exact ih0 _ _ _ _)
   | (with_reducible exact ih1 _ _ _ _)
   | (with_reducible exact ih2 _ _ _)
   | (with_reducible exact spec_ValueBytes.mono _ _ _ _)
   | (with_reducible exact spec_l20Rd_pick.mono _ _ _ _)
   | (with_reducible exact spec_l20Value.mono _ _ _ _)
   | (with_reducible exact LeO.refl _)
   | (with_reducible exact LeO.none _)
   | (with_reducible refine LeO.ite ?_ ?_)
   | (with_reducible refine LeO.bind ?_ (fun _ => ?_))
   | exact ih0 _ _ _ _
   | exact ih1 _ _ _ _
   | exact ih2 _ _ _
   | exact spec_ValueBytes.mono _ _ _ _
   | exact spec_l20Rd_pick.mono _ _ _ _
   | exact spec_l20Value.mono _ _ _ _
   | exact LeO.none _
   | refine LeO.ite ?_ ?_
   | refine LeO.bind ?_ (fun _ => ?_)
  ·
   intro y0 y1 y2
   unfold spec_DrawValueFrom.j2
   repeat' first
   | (with_reducible exact ih0 _ _ _ _)
   | (with_reducible exact ih1 _ _ _ _)
   | (with_reducible exact ih2 _ _ _)
   | (with_reducible exact spec_ValueBytes.mono _ _ _ _)
   | (with_reducible exact spec_l20Rd_pick.mono _ _ _ _)
   | (with_reducible exact spec_l20Value.mono _ _ _ _)
   | (with_reducible exact LeO.refl _)
   | (with_reducible exact LeO.none _)
   | (with_reducible refine LeO.ite ?_ ?_)
   | (with_reducible refine LeO.bind ?_ (fun _ => ?_))
   | exact ih0 _ _ _ _
   | exact ih1 _ _ _ _
   | exact ih2 _ _ _
   | exact spec_ValueBytes.mono _ _ _ _
   | exact spec_l20Rd_pick.mono _ _ _ _
   | exact spec_l20Value.mono _ _ _ _
   | exact LeO.none _
   | refine LeO.ite ?_ ?_
   | refine LeO.bind ?_ (fun _ => ?_)
theorem spec_DrawValueFrom.mono : ∀ a0 k, LeO (spec_DrawValueFrom.f k a0) (spec_DrawValueFrom.f (k + 1) a0) := by
 intro a0 k
 obtain ⟨ih0, ih1, ih2⟩ := spec_DrawValueFrom.mono_l k
 unfold spec_DrawValueFrom.f
 repeat' first
   | (with_reducible exact ih0 _ _ _ _)
   | (with_reducible exact ih1 _ _ _ _)
   | (with_reducible exact ih2 _ _ _)
   | (with_reducible exact spec_ValueBytes.mono _ _ _ _)
   | (with_reducible exact spec_l20Rd_pick.mono _ _ _ _)
   | (with_reducible exact spec_l20Value.mono _ _ _ _)
   | (with_reducible exact LeO.refl _)
   | (with_reducible exact LeO.none _)
   | (with_reducible refine LeO.ite ?_ ?_)
   | (with_reducible refine LeO.bind ?_ (fun _ => ?_))
   | exact ih0 _ _ _ _
   | exact ih1 _ _ _ _
   | exact ih2 _ _ _
   | exact spec_ValueBytes.mono _ _ _ _
   | exact spec_l20Rd_pick.mono _ _ _ _
   | exact spec_l20Value.mono _ _ _ _
   | exact LeO.none _
   | refine LeO.ite ?_ ?_
   | refine LeO.bind ?_ (fun _ => ?_)
set_option maxHeartbeats 8000000 in
set_option maxRecDepth 100000 in
theorem spec_DrawValueFrom.calls (k : Nat) (A0 : Option Addr) (c0 : Nat) (l0 : List Int) (r : List Int) (w : World) (hr0 : Kd.C (Kd.int .u8) w A0 l0.length l0) (hc0 : l0.length ≤ c0) (h : spec_DrawValueFrom.f k l0 = some r) :
  Calls Try.prog 42 #[.slice A0 l0.length c0] w fun e w' => ∃ v0_ : Value, e = .returned (v0_) ∧ Kd.R (Kd.int .u8) 5 w' w.heap.size (fun _ => True) v0_ r ∧ Below w.heap.size w w' := by
 have HR0 := zM hr0
 have HC0 := zM hc0
 clear hr0 hc0
 have HB := zM (Below.refl w.heap.size w)
 have H : ((spec_l20Open.f l0).bind fun bt393 => ((spec_l20Value.f k bt393.1 bt393.2 30).bind fun bt396 => ((spec_ValueBytes.f k bt396.1 bt396.2.1 bt396.2.2.1).bind fun t400 => ((spec_l20Rd_pick.f k bt393.1 bt396.2.2.2 3).bind fun bt403 => (spec_DrawValueFrom.l0 k t400 bt403.1 bt393.1 bt403.2))))) = some r := h
 clear h
 replace H := Option.bind_eq_some_iff.mp H
 obtain ⟨⟨t393, t394⟩, A20, H⟩ := H
 replace H : ((spec_l20Value.f k t393 t394 30).bind fun bt396 => ((spec_ValueBytes.f k bt396.1 bt396.2.1 bt396.2.2.1).bind fun t400 => ((spec_l20Rd_pick.f k t393 bt396.2.2.2 3).bind fun bt403 => (spec_DrawValueFrom.l0 k t400 bt403.1 t393 bt403.2)))) = some r := H
 have A2 := zM A20
 clear A20
 replace H := Option.bind_eq_some_iff.mp H
 obtain ⟨⟨t396, t397, t398, t399⟩, A30, H⟩ := H
 replace H : ((spec_ValueBytes.f k t396 t397 t398).bind fun t400 => ((spec_l20Rd_pick.f k t393 t399 3).bind fun bt403 => (spec_DrawValueFrom.l0 k t400 bt403.1 t393 bt403.2))) = some r := H
 have A3 := zM A30
 clear A30
 replace H := Option.bind_eq_some_iff.mp H
 obtain ⟨t400, A40, H⟩ := H
 replace H : ((spec_l20Rd_pick.f k t393 t399 3).bind fun bt403 => (spec_DrawValueFrom.l0 k t400 bt403.1 t393 bt403.2)) = some r := H
 have A4 := zM A40
 clear A40
 replace H := Option.bind_eq_some_iff.mp H
 obtain ⟨⟨t403, t404⟩, A50, H⟩ := H
 replace H : (spec_DrawValueFrom.l0 k t400 t403 t393 t404) = some r := H
 have A5 := zM A50
 clear A50
 have H' := zM H
 clear H
 go_enter Try.func42, Try.ntmps42
 go_wp2_with (first | ((with_reducible refine gate_callee (f := 56) rfl ?_); refine goesL_ (some 7) rfl rfl Try.func56 (by kernel_rfl) rfl #[.slice A0 l0.length c0] rfl (by (try simp only [List.map_toArray, List.map_cons, List.map_nil]); first | done | rfl | (simp only [List.length_drop, List.length_take]; rfl)) ?_; (with_reducible refine (spec_l20Open.calls _ _ l0 t393 t394 w _ ?side1 ?side2 ?side3 A2.out).mono ?_); (case side1 => repeat (first | (with_reducible first | exact HB.out | apply zU | apply zV | apply zW) | exact HB.out)); (case side2 => exact HR0.out); (case side3 => exact HC0.out); rintro e w6 ⟨g395, rfl, hi, hb, hb2⟩; refine ⟨_, rfl, ?_⟩; have n0_ := zM (hb); have n1_ := zM (hi); clear HB; have HB := n0_; have HI395 := n1_; clear n0_ n1_; (try clear hb); (try clear hb2); (try clear hk); (try clear hi)) | ((with_reducible refine gate_callee (f := 55) rfl ?_); refine goesL_ (some 9) rfl rfl Try.func55 (by kernel_rfl) rfl #[.pointer (some ⟨g395, 0, none⟩), .int .i64 30] rfl (by (try simp only [List.map_toArray, List.map_cons, List.map_nil]); first | done | rfl | (simp only [List.length_drop, List.length_take]; rfl)) ?_; (with_reducible refine (spec_l20Value.calls k g395 t393 t394 30 t396 t397 t398 t399 w _ ?side1 ?side2 A3.out).mono ?_); (case side1 => repeat (first | (with_reducible first | exact HI395.out | apply IsS69.alloc | apply IsS69.drewN | apply IsS69.drew | apply IsS69.set_1) | exact HI395.out)); (case side2 => repeat (first | (with_reducible first | exact HB.out | apply zU | apply zV | apply zW | refine zH ?_ (IsS69.ge HI395.out)) | exact HB.out)); rintro e w7 ⟨rfl, hi, hb, hk⟩; refine ⟨_, rfl, ?_⟩; have n0_ := zM (hb); have n1_ := zM (hi); clear HB; clear HI395; have HB := n0_; have HI395 := n1_; clear n0_ n1_; (try clear hb); (try clear hb2); (try clear hk); (try clear hi)) | ((with_reducible refine gate_callee (f := 16) rfl ?_); refine goesL_ (some 10) rfl rfl Try.func16 (by kernel_rfl) rfl #[.agg #[.int .i64 t396, .int .i64 t397, .string t398]] rfl (by (try simp only [List.map_toArray, List.map_cons, List.map_nil]); first | done | rfl | (simp only [List.length_drop, List.length_take]; rfl)) ?_; (with_reducible refine (spec_ValueBytes.calls k t396 t397 t398 t400 _ A4.out).mono ?_); rintro e w8 ⟨v401, rfl, ho0, hb⟩; refine ⟨_, rfl, ?_⟩; have n0_ := zM (Kd.R_lower ho0 (zI (by repeat (first | (with_reducible first | exact HB.out | apply zU | apply zV | apply zW | refine zH ?_ (IsS69.ge HI395.out)) | exact HB.out)))); have n1_ := zM (IsS69.below (by repeat (first | (with_reducible first | exact HI395.out | apply IsS69.alloc | apply IsS69.drewN | apply IsS69.drew | apply IsS69.set_1) | exact HI395.out)) hb); have n2_ := zM (zG (by repeat (first | (with_reducible first | exact HB.out | apply zU | apply zV | apply zW | refine zH ?_ (IsS69.ge HI395.out)) | exact HB.out)) hb); clear HI395; clear HB; have HO402 := n0_; have HI395 := n1_; have HB := n2_; clear n0_ n1_ n2_; (try clear hb); (try clear hb2); (try clear hk); (try clear hi); (try clear ho0)) | ((with_reducible refine gate_callee (f := 57) rfl ?_); refine goesL_ (some 12) rfl rfl Try.func57 (by kernel_rfl) rfl #[.pointer (some ⟨g395, 0, none⟩), .int .i64 3] rfl (by (try simp only [List.map_toArray, List.map_cons, List.map_nil]); first | done | rfl | (simp only [List.length_drop, List.length_take]; rfl)) ?_; (with_reducible refine (spec_l20Rd_pick.calls k g395 t393 t399 3 t403 t404 w _ ?side1 ?side2 A5.out).mono ?_); (case side1 => repeat (first | (with_reducible first | exact HI395.out | apply IsS69.alloc | apply IsS69.drewN | apply IsS69.drew | apply IsS69.set_1) | exact HI395.out)); (case side2 => repeat (first | (with_reducible first | exact HB.out | apply zU | apply zV | apply zW | refine zH ?_ (IsS69.ge HI395.out)) | exact HB.out)); rintro e w9 ⟨rfl, hi, hb, hk⟩; refine ⟨_, rfl, ?_⟩; have n0_ := zM (Kd.R_mono (Kd.R_keep (IsS69.apart (show IsS69 w _ g395 t393 t399 from by repeat (first | (with_reducible first | exact HI395.out | apply IsS69.alloc | apply IsS69.drewN | apply IsS69.drew | apply IsS69.set_1) | exact HI395.out)) (by (with_reducible repeat (first | apply zR | apply zS | apply zT)); exact HO402.out) (by decide)) hk (fun _ h => h.2)) (fun _ h => h.1)); have n1_ := zM (hb); have n2_ := zM (hi); clear HO402; clear HB; clear HI395; have HO402 := n0_; have HB := n1_; have HI395 := n2_; clear n0_ n1_ n2_; (try clear hb); (try clear hb2); (try clear hk); (try clear hi)))
 go_loopg [4, 5] k (fun kq v4 v5 w' => ∃ (x4_1 : List Int) (x5_1 : Int) (x396001_1 : Int), v5 = .int .i64 x5_1 ∧ Aside0 (spec_DrawValueFrom.l0 kq x4_1 x5_1 t393 x396001_1 = some r) ∧ Aside0 (kq ≤ k) ∧ Aside0 (Kd.R (Kd.int .u8) 5 w' w.heap.size (fun _ => True) v4 x4_1) ∧ Aside0 (IsS69 w w' g395 t393 x396001_1) ∧ Aside0 (Below w.heap.size w w'))
 case atStart => exact ⟨(t400), (t403), (t404), (by first | rfl | (simp; done) | (simp [*]; done)), H', ⟨Nat.le_refl _⟩, ⟨by (with_reducible repeat (first | apply zR | apply zS | apply zT)); exact HO402.out⟩, ⟨by repeat (first | (with_reducible first | exact HI395.out | apply IsS69.alloc | apply IsS69.drewN | apply IsS69.drew | apply IsS69.set_1) | exact HI395.out)⟩, ⟨by repeat (first | (with_reducible first | exact HB.out | apply zU | apply zV | apply zW | refine zH ?_ (IsS69.ge HI395.out)) | exact HB.out)⟩⟩
 case round =>
  clear H'
  try clear c1
  try clear p2
  try clear c4
  try clear c5
  obtain ⟨x4_1, x5_1, x396001_1, rfl, HA, HK1, HO_4, HI395, HB⟩ := hrel
  cases gk with
  | zero => exact absurd HA.out (by simp [spec_DrawValueFrom.l0])
  | succ k1 =>
   have H := HA.out
   clear HA
   simp only [spec_DrawValueFrom.l0] at H
   by_cases c10 : x5_1 > 0
   ·
    rw [if_pos c10] at H
    have c10b0 : decide (0 < x5_1) = true := decide_eq_true c10
    clear c10
    replace H := Option.bind_eq_some_iff.mp H
    obtain ⟨⟨t405, t406⟩, A110, H⟩ := H
    replace H : (if x4_1.length < 140737488355328 then (spec_DrawValueFrom.l0 k1 (x4_1 ++ [(t405) % 256]) (wrap64 (x5_1 - 1)) t393 t406) else (none)) = some r := H
    have A11 := zM A110
    clear A110
    by_cases c12 : x4_1.length < 140737488355328
    ·
     rw [if_pos c12] at H
     have LMc12 := zM c12
     clear c12
     obtain ⟨y407, hy407⟩ : ∃ y_ : List Int, y_ = (x4_1 ++ [(t405) % 256]) := ⟨_, rfl⟩
     replace H : (spec_DrawValueFrom.l0 k1 y407 (wrap64 (x5_1 - 1)) t393 t406) = some r := by first | (rw [hy407]; with_reducible exact H) | (have H2_ := (Option.bind_some _ _).symm.trans H; rw [hy407]; with_reducible exact H2_) | (have H2_ := (Option.bind_some _ _).symm.trans H; with_reducible exact H2_) | with_reducible exact H | (rw [hy407]; exact H) | exact H
     have Ny407 := zM hy407
     clear hy407
     have H' := zM H
     clear H
     go_wp2_with (first | ((with_reducible refine gate_callee (f := 57) rfl ?_); refine goesL_ (some 19) rfl rfl Try.func57 (by kernel_rfl) rfl #[.pointer (some ⟨g395, 0, none⟩), .int .i64 256] rfl (by (try simp only [List.map_toArray, List.map_cons, List.map_nil]); first | done | rfl | (simp only [List.length_drop, List.length_take]; rfl)) ?_; (with_reducible refine (spec_l20Rd_pick.calls k1 g395 t393 x396001_1 256 t405 t406 w _ ?side1 ?side2 A11.out).mono ?_); (case side1 => repeat (first | (with_reducible first | exact HI395.out | apply IsS69.alloc | apply IsS69.drewN | apply IsS69.drew | apply IsS69.set_1) | exact HI395.out)); (case side2 => repeat (first | (with_reducible first | exact HB.out | apply zU | apply zV | apply zW | refine zH ?_ (IsS69.ge HI395.out)) | exact HB.out)); rintro e w13 ⟨rfl, hi, hb, hk⟩; refine ⟨_, rfl, ?_⟩; have n0_ := zM (Kd.R_mono (Kd.R_keep (IsS69.apart (show IsS69 w _ g395 t393 x396001_1 from by repeat (first | (with_reducible first | exact HI395.out | apply IsS69.alloc | apply IsS69.drewN | apply IsS69.drew | apply IsS69.set_1) | exact HI395.out)) (by (with_reducible repeat (first | apply zR | apply zS | apply zT)); exact HO_4.out) (by decide)) hk (fun _ h => h.2)) (fun _ h => h.1)); have n1_ := zM (hb); have n2_ := zM (hi); clear HO_4; clear HB; clear HI395; have HO_4 := n0_; have HB := n1_; have HI395 := n2_; clear n0_ n1_ n2_; (try clear hb); (try clear hb2); (try clear hk); (try clear hi)) | ((with_reducible refine gate_builtin (b := .append) (xs := #[.tmp 17, .tmp 21]) rfl ?_); at_builtin; refine Kd.R_append (Kd.int .u8) (w0 := w) w.heap.size rfl (.tmp 17) (.tmp 21) 25 5 (.int .u8 0) 1 rfl Try.underlying25 info5 rfl (by decide) (by omega) u4 x4_1 ((t405) % 256) [.int .u8 ((t405) % 256)] (fun _ => True) (fun _ => False) rfl rfl ?aP (fun _ hk => hk.elim) ?aF ?aO ?aB ?aS ?aL ?_; (case aP => exact rfl); (case aB => exact (by repeat (first | (with_reducible first | exact HB.out | apply zU | apply zV | apply zW | refine zH ?_ (IsS69.ge HI395.out)) | exact HB.out))); (case aF => exact (fun _ _ => trivial)); (case aO => exact (by (with_reducible repeat (first | apply zR | apply zS | apply zT)); exact HO_4.out)); (case aS => exact (zI (by repeat (first | (with_reducible first | exact HB.out | apply zU | apply zV | apply zW | refine zH ?_ (IsS69.ge HI395.out)) | exact HB.out)))); (case aL => have := LMc12.out; omega); intro v408 w14 ho hb hg hat; rw [← Ny407.out] at ho; have n0_ := zM (IsS69.grown (by repeat (first | (with_reducible first | exact HI395.out | apply IsS69.alloc | apply IsS69.drewN | apply IsS69.drew | apply IsS69.set_1) | exact HI395.out)) hg (IsS69.own_ne HI395.out HO_4.out (by decide))); have n1_ := zM (hb); have n2_ := zM (ho); clear HI395; clear HB; clear HO_4; have HI395 := n0_; have HB := n1_; have HO409 := n2_; clear n0_ n1_ n2_; clear ho hb hg hat))
     go_roundg k1
     case measure => have := HK1.out; omega
     case rel => exact ⟨(y407), (wrap64 (x5_1 - 1)), (t406), (by first | rfl | (simp; done) | (simp [*]; done)), H', ⟨by have := HK1.out; omega⟩, ⟨by (with_reducible repeat (first | apply zR | apply zS | apply zT)); exact HO409.out⟩, ⟨by repeat (first | (with_reducible first | exact HI395.out | apply IsS69.alloc | apply IsS69.drewN | apply IsS69.drew | apply IsS69.set_1) | exact HI395.out)⟩, ⟨by repeat (first | (with_reducible first | exact HB.out | apply zU | apply zV | apply zW | refine zH ?_ (IsS69.ge HI395.out)) | exact HB.out)⟩⟩
    ·
     rw [if_neg c12] at H
     exact absurd H (by simp)
   ·
    rw [if_neg c10] at H
    have c10b0 : decide (0 < x5_1) = false := decide_eq_false c10
    clear c10
    have HC15 := zM H
    clear H
    go_upto_region 7 with (fail)
    go_cut [30] (fun v30 wc => ∃ (kq : Nat) (x30_14 : Bool) (x396001_14 : Int), v30 = .bool x30_14 ∧ Aside0 (spec_DrawValueFrom.j1 kq x4_1 x30_14 t393 x396001_14 = some r) ∧ Aside0 (kq ≤ k1) ∧ Aside0 (Kd.R (Kd.int .u8) 5 wc w.heap.size (fun _ => True) u4 x4_1) ∧ Aside0 (IsS69 w wc g395 t393 x396001_14) ∧ Aside0 (Below w.heap.size w wc))
    case first =>
     have H := HC15.out
     clear HC15
     by_cases c16 : (x4_1.length : Int) > 0
     ·
      rw [if_pos c16] at H
      have c16b0 : decide (0 < (x4_1.length : Int)) = true := decide_eq_true c16
      have c16b1 : decide (0 < x4_1.length) = true := decide_eq_true (by omega)
      clear c16
      (first | rw [c16b0] | (simp only [i64_w, i32_w]; rw [c16b0]) | skip)
      replace H := Option.bind_eq_some_iff.mp H
      obtain ⟨⟨t410, t411⟩, A170, H⟩ := H
      replace H : (spec_DrawValueFrom.j1 k1 x4_1 (t410 == 0) t393 t411) = some r := H
      have A17 := zM A170
      clear A170
      have H' := zM H
      clear H
      obtain ⟨Ao18, co18, eo18⟩ := Kd.R_slice HO_4.out
      subst eo18
      go_wp2_with (first | (go_at_call 57; (with_reducible refine (spec_l20Rd_pick.calls k1 g395 t393 x396001_1 4 t410 t411 w _ ?side1 ?side2 A17.out).mono ?_); (case side1 => repeat (first | (with_reducible first | exact HI395.out | apply IsS69.alloc | apply IsS69.drewN | apply IsS69.drew | apply IsS69.set_1) | exact HI395.out)); (case side2 => repeat (first | (with_reducible first | exact HB.out | apply zU | apply zV | apply zW | refine zH ?_ (IsS69.ge HI395.out)) | exact HB.out)); rintro e w19 ⟨rfl, hi, hb, hk⟩; have n0_ := zM (Kd.R_mono (Kd.R_keep (IsS69.apart (show IsS69 w _ g395 t393 x396001_1 from by repeat (first | (with_reducible first | exact HI395.out | apply IsS69.alloc | apply IsS69.drewN | apply IsS69.drew | apply IsS69.set_1) | exact HI395.out)) (by (with_reducible repeat (first | apply zR | apply zS | apply zT)); exact HO_4.out) (by decide)) hk (fun _ h => h.2)) (fun _ h => h.1)); have n1_ := zM (hb); have n2_ := zM (hi); clear HO_4; clear HB; clear HI395; have HO_4 := n0_; have HB := n1_; have HI395 := n2_; clear n0_ n1_ n2_; (try clear hb); (try clear hb2); (try clear hk); (try clear hi)))
      go_meet
      case rel => exact ⟨_, ((t410 == 0)), (t411), (by first | rfl | (simp; done) | (simp [*]; done)), H', ⟨by have := HK1.out; first | omega | exact Nat.le_refl _⟩, ⟨by (with_reducible repeat (first | apply zR | apply zS | apply zT)); exact HO_4.out⟩, ⟨by repeat (first | (with_reducible first | exact HI395.out | apply IsS69.alloc | apply IsS69.drewN | apply IsS69.drew | apply IsS69.set_1) | exact HI395.out)⟩, ⟨by repeat (first | (with_reducible first | exact HB.out | apply zU | apply zV | apply zW | refine zH ?_ (IsS69.ge HI395.out)) | exact HB.out)⟩⟩
     ·
      rw [if_neg c16] at H
      have c16b0 : decide (0 < (x4_1.length : Int)) = false := decide_eq_false c16
      have c16b1 : decide (0 < x4_1.length) = false := decide_eq_false (by omega)
      clear c16
      (first | rw [c16b0] | (simp only [i64_w, i32_w]; rw [c16b0]) | skip)
      have H' := zM H
      clear H
      obtain ⟨Ao20, co20, eo20⟩ := Kd.R_slice HO_4.out
      subst eo20
      go_wp2
      go_meet
      case rel => exact ⟨_, (false), (x396001_1), (by first | rfl | (simp; done) | (simp [*]; done)), H', ⟨by have := HK1.out; first | omega | exact Nat.le_refl _⟩, ⟨by (with_reducible repeat (first | apply zR | apply zS | apply zT)); exact HO_4.out⟩, ⟨by repeat (first | (with_reducible first | exact HI395.out | apply IsS69.alloc | apply IsS69.drewN | apply IsS69.drew | apply IsS69.set_1) | exact HI395.out)⟩, ⟨by repeat (first | (with_reducible first | exact HB.out | apply zU | apply zV | apply zW | refine zH ?_ (IsS69.ge HI395.out)) | exact HB.out)⟩⟩
    case rest =>
     clear HC15
     try clear c1
     try clear p2
     try clear c4
     try clear c5
     try clear p6
     try clear c10
     try clear c10b0
     try clear c12
     try clear c16
     try clear c16b0
     try clear c16b1
     try clear p2
     obtain ⟨kq, x30_14, x396001_14, rfl, HA, HJ14, HO_4, HI395, HB⟩ := hcut
     cases kq with
     | zero => exact absurd HA.out (by simp [spec_DrawValueFrom.j1])
     | succ kj14 =>
      have H := HA.out
      clear HA
      simp only [spec_DrawValueFrom.j1] at H
      have HC21 := zM H
      clear H
      go_upto_if 30 with (fail)
      go_cut [] (fun wc => ∃ (kq : Nat) (x4_20 : List Int) (x396001_20 : Int), Aside0 (spec_DrawValueFrom.j2 kq x4_20 t393 x396001_20 = some r) ∧ Aside0 (kq ≤ kj14) ∧ Aside0 (Kd.R (Kd.int .u8) 5 wc w.heap.size (fun _ => True) u4 x4_20) ∧ Aside0 (IsS69 w wc g395 t393 x396001_20) ∧ Aside0 (Below w.heap.size w wc))
      case first =>
       have H := HC21.out
       clear HC21
       by_cases c22 : x30_14 = true
       ·
        subst c22
        have H1 : ((spec_l20Rd_pick.f kj14 t393 x396001_14 (x4_1.length : Int)).bind fun bt412 => ((spec_l20Rd_pick.f kj14 t393 bt412.2 256).bind fun bt414 => (if 0 ≤ bt412.1 then (if bt412.1 < (x4_1.length : Int) then (spec_DrawValueFrom.j2 kj14 (x4_1.set (bt412.1 : Int).toNat ((bt414.1) % 256)) t393 bt414.2) else (none)) else (none)))) = some r := by rw [if_pos rfl] at H; exact H
        clear H
        have H := H1
        clear H1
        replace H := Option.bind_eq_some_iff.mp H
        obtain ⟨⟨t412, t413⟩, A230, H⟩ := H
        replace H : ((spec_l20Rd_pick.f kj14 t393 t413 256).bind fun bt414 => (if 0 ≤ t412 then (if t412 < (x4_1.length : Int) then (spec_DrawValueFrom.j2 kj14 (x4_1.set (t412 : Int).toNat ((bt414.1) % 256)) t393 bt414.2) else (none)) else (none))) = some r := H
        have A23 := zM A230
        clear A230
        replace H := Option.bind_eq_some_iff.mp H
        obtain ⟨⟨t414, t415⟩, A240, H⟩ := H
        replace H : (if 0 ≤ t412 then (if t412 < (x4_1.length : Int) then (spec_DrawValueFrom.j2 kj14 (x4_1.set (t412 : Int).toNat ((t414) % 256)) t393 t415) else (none)) else (none)) = some r := H
        have A24 := zM A240
        clear A240
        by_cases c25 : 0 ≤ t412
        ·
         rw [if_pos c25] at H
         have c25b0 : decide (0 ≤ t412) = true := decide_eq_true c25
         clear c25
         (first | rw [c25b0] | (simp only [i64_w, i32_w]; rw [c25b0]) | skip)
         by_cases c26 : t412 < (x4_1.length : Int)
         ·
          rw [if_pos c26] at H
          have c26b0 : decide (t412 < (x4_1.length : Int)) = true := decide_eq_true c26
          clear c26
          obtain ⟨y416, hy416⟩ : ∃ y_ : List Int, y_ = (x4_1.set (t412 : Int).toNat ((t414) % 256)) := ⟨_, rfl⟩
          replace H : (spec_DrawValueFrom.j2 kj14 y416 t393 t415) = some r := by first | (rw [hy416]; with_reducible exact H) | (have H2_ := (Option.bind_some _ _).symm.trans H; rw [hy416]; with_reducible exact H2_) | (have H2_ := (Option.bind_some _ _).symm.trans H; with_reducible exact H2_) | with_reducible exact H | (rw [hy416]; exact H) | exact H
          have Ny416 := zM hy416
          clear hy416
          have H' := zM H
          clear H
          obtain ⟨Ao28, co28, eo28⟩ := Kd.R_slice HO_4.out
          subst eo28
          go_wp2_with (first | ((with_reducible refine gate_callee (f := 57) rfl ?_); refine goesL_ (some 35) rfl rfl Try.func57 (by kernel_rfl) rfl #[.pointer (some ⟨g395, 0, none⟩), .int .i64 (x4_1.length : Int)] rfl (by (try simp only [List.map_toArray, List.map_cons, List.map_nil]); first | done | rfl | (simp only [List.length_drop, List.length_take]; rfl)) ?_; (with_reducible refine (spec_l20Rd_pick.calls kj14 g395 t393 x396001_14 (x4_1.length : Int) t412 t413 w _ ?side1 ?side2 A23.out).mono ?_); (case side1 => repeat (first | (with_reducible first | exact HI395.out | apply IsS69.alloc | apply IsS69.drewN | apply IsS69.drew | apply IsS69.set_1) | exact HI395.out)); (case side2 => repeat (first | (with_reducible first | exact HB.out | apply zU | apply zV | apply zW | refine zH ?_ (IsS69.ge HI395.out)) | exact HB.out)); rintro e w29 ⟨rfl, hi, hb, hk⟩; refine ⟨_, rfl, ?_⟩; have n0_ := zM (Kd.R_mono (Kd.R_keep (IsS69.apart (show IsS69 w _ g395 t393 x396001_14 from by repeat (first | (with_reducible first | exact HI395.out | apply IsS69.alloc | apply IsS69.drewN | apply IsS69.drew | apply IsS69.set_1) | exact HI395.out)) (by (with_reducible repeat (first | apply zR | apply zS | apply zT)); exact HO_4.out) (by decide)) hk (fun _ h => h.2)) (fun _ h => h.1)); have n1_ := zM (hb); have n2_ := zM (hi); clear HO_4; clear HB; clear HI395; have HO_4 := n0_; have HB := n1_; have HI395 := n2_; clear n0_ n1_ n2_; (try clear hb); (try clear hb2); (try clear hk); (try clear hi)) | ((with_reducible refine gate_callee (f := 57) rfl ?_); refine goesL_ (some 37) rfl rfl Try.func57 (by kernel_rfl) rfl #[.pointer (some ⟨g395, 0, none⟩), .int .i64 256] rfl (by (try simp only [List.map_toArray, List.map_cons, List.map_nil]); first | done | rfl | (simp only [List.length_drop, List.length_take]; rfl)) ?_; (with_reducible refine (spec_l20Rd_pick.calls kj14 g395 t393 t413 256 t414 t415 w _ ?side1 ?side2 A24.out).mono ?_); (case side1 => repeat (first | (with_reducible first | exact HI395.out | apply IsS69.alloc | apply IsS69.drewN | apply IsS69.drew | apply IsS69.set_1) | exact HI395.out)); (case side2 => repeat (first | (with_reducible first | exact HB.out | apply zU | apply zV | apply zW | refine zH ?_ (IsS69.ge HI395.out)) | exact HB.out)); rintro e w30 ⟨rfl, hi, hb, hk⟩; refine ⟨_, rfl, ?_⟩; have n0_ := zM (Kd.R_mono (Kd.R_keep (IsS69.apart (show IsS69 w _ g395 t393 t413 from by repeat (first | (with_reducible first | exact HI395.out | apply IsS69.alloc | apply IsS69.drewN | apply IsS69.drew | apply IsS69.set_1) | exact HI395.out)) (by (with_reducible repeat (first | apply zR | apply zS | apply zT)); exact HO_4.out) (by decide)) hk (fun _ h => h.2)) (fun _ h => h.1)); have n1_ := zM (hb); have n2_ := zM (hi); clear HO_4; clear HB; clear HI395; have HO_4 := n0_; have HB := n1_; have HI395 := n2_; clear n0_ n1_ n2_; (try clear hb); (try clear hb2); (try clear hk); (try clear hi); have p27 : 0 ≤ (t412 : Int) := zL (by assumption); have q27 : (t412 : Int) < ((x4_1.length : Int) : Int) := zL (by assumption); obtain ⟨go27, co27, eo27, gb27, gl27, cl27, HG27⟩ := Kd.R_form HO_4.out (by omega); (first | cases eo27 | (injection eo27 with ea_ en_ ec_; (first | subst ea_ | (injection ea_ with ea_; subst ea_)); subst ec_; clear en_)); have GB27 := zM gb27; have GG27 := zM HG27; clear gb27 gl27 HG27; obtain ⟨hx27_0, hf27_0⟩ := Kd.R_celln 0 HO_4.out (t412 : Int) p27 q27; replace p27 := eq_true p27; replace q27 := eq_true q27; obtain ⟨hy31_, hz31_⟩ := Kd.R_celln 0 HO_4.out (t412 : Int) (zL (by assumption)) (zL (by assumption)); have HP31 := Kd.R_putg HO_4.out (t412 : Int) ((t414) % 256)) | ((with_reducible refine gate_store (t := 5) (p := 39) rfl ?_); refine store_event (t := 5) (p := 39) (v := ?vo_w32) (w1 := (w30.setCell ⟨go27, (t412 : Int).toNat, none⟩ (.int .u8 ((t414) % 256)))) ?hg ?ho ?hn ?hr ?_; (case ho => rfl); (case hg => rfl); (case hn => rfl); (case hr => first | (go_simp; done) | (go_simp; rfl)); intro w32 hw; have hg : w30.grownBy w32 (some go27) := (by rw [hw]; exact HP31.2); have hp_ : Kd.R (Kd.int .u8) 5 w32 w.heap.size (fun _ => True) (.slice (some ⟨go27, 0, none⟩) x4_1.length co28) y416 := (by rw [hw, Ny416.out]; exact HP31.1); clear HP31; have n0_ := zM (hp_); have n1_ := zM (IsS69.grown (by repeat (first | (with_reducible first | exact HI395.out | apply IsS69.alloc | apply IsS69.drewN | apply IsS69.drew | apply IsS69.set_1) | exact HI395.out)) hg (IsS69.own_ne HI395.out HO_4.out (by decide))); have n2_ := zM ((by rw [hw]; exact zH (HB.out) GB27.out : Below w.heap.size w w32)); clear HO_4; clear HI395; clear HB; have HO_4 := n0_; have HI395 := n1_; have HB := n2_; clear n0_ n1_ n2_; clear hg hw hp_))
          go_meet
          case rel => exact ⟨_, (y416), (t415), H', ⟨by have := HK1.out; have := HJ14.out; first | omega | exact Nat.le_refl _⟩, ⟨by (with_reducible repeat (first | apply zR | apply zS | apply zT)); exact HO_4.out⟩, ⟨by repeat (first | (with_reducible first | exact HI395.out | apply IsS69.alloc | apply IsS69.drewN | apply IsS69.drew | apply IsS69.set_1) | exact HI395.out)⟩, ⟨by repeat (first | (with_reducible first | exact HB.out | apply zU | apply zV | apply zW | refine zH ?_ (IsS69.ge HI395.out)) | exact HB.out)⟩⟩
         ·
          rw [if_neg c26] at H
          exact absurd H (by simp)
        ·
         rw [if_neg c25] at H
         exact absurd H (by simp)
       ·
        replace c22 := Bool.eq_false_iff.mpr c22
        subst c22
        have H1 : (spec_DrawValueFrom.j2 kj14 x4_1 t393 x396001_14) = some r := by rw [if_neg (show ¬ (false = true) by decide)] at H; exact H
        clear H
        have H := H1
        clear H1
        have H' := zM H
        clear H
        go_wp2
        go_meet
        case rel => exact ⟨_, (x4_1), (x396001_14), H', ⟨by have := HK1.out; have := HJ14.out; first | omega | exact Nat.le_refl _⟩, ⟨by (with_reducible repeat (first | apply zR | apply zS | apply zT)); exact HO_4.out⟩, ⟨by repeat (first | (with_reducible first | exact HI395.out | apply IsS69.alloc | apply IsS69.drewN | apply IsS69.drew | apply IsS69.set_1) | exact HI395.out)⟩, ⟨by repeat (first | (with_reducible first | exact HB.out | apply zU | apply zV | apply zW | refine zH ?_ (IsS69.ge HI395.out)) | exact HB.out)⟩⟩
      case rest =>
       clear HC21
       try clear c1
       try clear c2
       try clear p2
       try clear q2
       try clear hx2
       try clear hf2
       try clear c4
       try clear c5
       try clear p6
       try clear c10
       try clear c10b0
       try clear c12
       try clear c16
       try clear c16b0
       try clear c16b1
       try clear c22
       try clear c25
       try clear c25b0
       try clear c26
       try clear c26b0
       try clear p27
       try clear q27
       try clear hx27
       try clear hf27
       try clear hx27_0
       try clear p2
       try clear p27
       try clear p6
       try clear q27
       obtain ⟨kq, x4_20, x396001_20, HA, HJ20, HO_4, HI395, HB⟩ := hcut
       cases kq with
       | zero => exact absurd HA.out (by simp [spec_DrawValueFrom.j2])
       | succ kj20 =>
        have H := HA.out
        clear HA
        simp only [spec_DrawValueFrom.j2] at H
        by_cases c33 : (x4_20.length : Int) > 0
        ·
         rw [if_pos c33] at H
         have c33b0 : decide (0 < (x4_20.length : Int)) = true := decide_eq_true c33
         have c33b1 : decide (0 < x4_20.length) = true := decide_eq_true (by omega)
         clear c33
         replace H := Option.bind_eq_some_iff.mp H
         obtain ⟨⟨t417, t418⟩, A340, H⟩ := H
         replace H : (if t417 = 0 then ((spec_l20Rd_pick.f kj20 t393 t418 (x4_20.length : Int)).bind fun bt419 => (if 0 ≤ bt419.1 then (if bt419.1 ≤ (x4_20.length : Int) then ((some (x4_20.take (bt419.1 : Int).toNat : List Int)).bind fun y421 => ((some (([] : List Int) : List Int)).bind fun y424 => (if y424.length + y421.length < 140737488355328 then (some (y424 ++ y421)) else (none)))) else (none)) else (none))) else ((some (([] : List Int) : List Int)).bind fun y430 => (if y430.length + x4_20.length < 140737488355328 then (some (y430 ++ x4_20)) else (none)))) = some r := H
         have A34 := zM A340
         clear A340
         by_cases c35 : t417 = 0
         ·
          rw [if_pos c35] at H
          have c35b0 : (t417 == 0) = true := beq_iff_eq.mpr c35
          have c35b1 : (t417 != 0) = false := bne_eq_false_iff_eq.mpr c35
          clear c35
          replace H := Option.bind_eq_some_iff.mp H
          obtain ⟨⟨t419, t420⟩, A360, H⟩ := H
          replace H : (if 0 ≤ t419 then (if t419 ≤ (x4_20.length : Int) then ((some (x4_20.take (t419 : Int).toNat : List Int)).bind fun y421 => ((some (([] : List Int) : List Int)).bind fun y424 => (if y424.length + y421.length < 140737488355328 then (some (y424 ++ y421)) else (none)))) else (none)) else (none)) = some r := H
          have A36 := zM A360
          clear A360
          by_cases c37 : 0 ≤ t419
          ·
           rw [if_pos c37] at H
           have c37b0 := eq_true c37
           have c37b1 : decide (0 ≤ t419) = true := decide_eq_true c37
           clear c37
           by_cases c38 : t419 ≤ (x4_20.length : Int)
           ·
            rw [if_pos c38] at H
            have c38b0 := eq_true c38
            have c38b1 : decide (t419 ≤ (x4_20.length : Int)) = true := decide_eq_true c38
            clear c38
            obtain ⟨y421, hy421⟩ : ∃ y_ : List Int, y_ = (x4_20.take (t419 : Int).toNat) := ⟨_, rfl⟩
            replace H : ((some (([] : List Int) : List Int)).bind fun y424 => (if y424.length + y421.length < 140737488355328 then (some (y424 ++ y421)) else (none))) = some r := by first | (rw [hy421]; with_reducible exact H) | (have H2_ := (Option.bind_some _ _).symm.trans H; rw [hy421]; with_reducible exact H2_) | (have H2_ := (Option.bind_some _ _).symm.trans H; with_reducible exact H2_) | with_reducible exact H | (rw [hy421]; exact H) | exact H
            have Ny421 := zM hy421
            clear hy421
            obtain ⟨y424, hy424⟩ : ∃ y_ : List Int, y_ = (([] : List Int)) := ⟨_, rfl⟩
            replace H : (if y424.length + y421.length < 140737488355328 then (some (y424 ++ y421)) else (none)) = some r := by first | (rw [hy424]; with_reducible exact H) | (have H2_ := (Option.bind_some _ _).symm.trans H; rw [hy424]; with_reducible exact H2_) | (have H2_ := (Option.bind_some _ _).symm.trans H; with_reducible exact H2_) | with_reducible exact H | (rw [hy424]; exact H) | exact H
            have Ny424 := zM hy424
            clear hy424
            by_cases c39 : y424.length + y421.length < 140737488355328
            ·
             rw [if_pos c39] at H
             have LMc39 := zM c39
             clear c39
             obtain ⟨y427, hy427⟩ : ∃ y_ : List Int, y_ = (y424 ++ y421) := ⟨_, rfl⟩
             replace H : (some y427) = some r := by first | (rw [hy427]; with_reducible exact H) | (have H2_ := (Option.bind_some _ _).symm.trans H; rw [hy427]; with_reducible exact H2_) | (have H2_ := (Option.bind_some _ _).symm.trans H; with_reducible exact H2_) | with_reducible exact H | (rw [hy427]; exact H) | exact H
             have Ny427 := zM hy427
             clear hy427
             obtain rfl := Option.some.inj H
             obtain ⟨Ao40, co40, eo40⟩ := Kd.R_slice HO_4.out
             subst eo40
             go_wp2_with (first | (go_at_call 57; (with_reducible refine (spec_l20Rd_pick.calls kj20 g395 t393 x396001_20 5 t417 t418 w _ ?side1 ?side2 A34.out).mono ?_); (case side1 => repeat (first | (with_reducible first | exact HI395.out | apply IsS69.alloc | apply IsS69.drewN | apply IsS69.drew | apply IsS69.set_1) | exact HI395.out)); (case side2 => repeat (first | (with_reducible first | exact HB.out | apply zU | apply zV | apply zW | refine zH ?_ (IsS69.ge HI395.out)) | exact HB.out)); rintro e w41 ⟨rfl, hi, hb, hk⟩; have n0_ := zM (Kd.R_mono (Kd.R_keep (IsS69.apart (show IsS69 w _ g395 t393 x396001_20 from by repeat (first | (with_reducible first | exact HI395.out | apply IsS69.alloc | apply IsS69.drewN | apply IsS69.drew | apply IsS69.set_1) | exact HI395.out)) (by (with_reducible repeat (first | apply zR | apply zS | apply zT)); exact HO_4.out) (by decide)) hk (fun _ h => h.2)) (fun _ h => h.1)); have n1_ := zM (hb); have n2_ := zM (hi); clear HO_4; clear HB; clear HI395; have HO_4 := n0_; have HB := n1_; have HI395 := n2_; clear n0_ n1_ n2_; (try clear hb); (try clear hb2); (try clear hk); (try clear hi)) | ((with_reducible refine gate_callee (f := 57) rfl ?_); refine goesL_ (some 52) rfl rfl Try.func57 (by kernel_rfl) rfl #[.pointer (some ⟨g395, 0, none⟩), .int .i64 (x4_20.length : Int)] rfl (by (try simp only [List.map_toArray, List.map_cons, List.map_nil]); first | done | rfl | (simp only [List.length_drop, List.length_take]; rfl)) ?_; (with_reducible refine (spec_l20Rd_pick.calls kj20 g395 t393 t418 (x4_20.length : Int) t419 t420 w _ ?side1 ?side2 A36.out).mono ?_); (case side1 => repeat (first | (with_reducible first | exact HI395.out | apply IsS69.alloc | apply IsS69.drewN | apply IsS69.drew | apply IsS69.set_1) | exact HI395.out)); (case side2 => repeat (first | (with_reducible first | exact HB.out | apply zU | apply zV | apply zW | refine zH ?_ (IsS69.ge HI395.out)) | exact HB.out)); rintro e w42 ⟨rfl, hi, hb, hk⟩; refine ⟨_, rfl, ?_⟩; have n0_ := zM (Kd.R_mono (Kd.R_keep (IsS69.apart (show IsS69 w _ g395 t393 t418 from by repeat (first | (with_reducible first | exact HI395.out | apply IsS69.alloc | apply IsS69.drewN | apply IsS69.drew | apply IsS69.set_1) | exact HI395.out)) (by (with_reducible repeat (first | apply zR | apply zS | apply zT)); exact HO_4.out) (by decide)) hk (fun _ h => h.2)) (fun _ h => h.1)); have n1_ := zM (hb); have n2_ := zM (hi); clear HO_4; clear HB; clear HI395; have HO_4 := n0_; have HB := n1_; have HI395 := n2_; clear n0_ n1_ n2_; (try clear hb); (try clear hb2); (try clear hk); (try clear hi); have q43 : (t419 : Int) ≤ ((x4_20.length : Int) : Int) := zL (by assumption); obtain ⟨i043, hi043, _, hsz43, _⟩ := info_parts info5; have hcut43 := cut_to (P := Try.prog) 25 5 .i64 Try.underlying25 hi043 Ao40 x4_20.length co40 t419 (zL (by assumption)) q43 (Kd.R_reads' HO_4.out).2.1; have hr43 := Kd.R_take (m := (t419 : Int).toNat) HO_4.out (by omega); have hy43 : y421.length = (t419 : Int).toNat := (by rw [Ny421.out, List.length_take]; omega); rw [← Ny421.out] at hr43; rw [← hy43] at hr43 hcut43; clear hy43 hi043 hsz43 HO_4; have HO423 := zM hr43; clear hr43; replace q43 := eq_true q43) | ((with_reducible refine gate_dst (N := 54) rfl ?_); refine Kd.R_lit (Kd.int .u8) _ 5 ?hg (N := 54) ?hd (xs := ([] : List Int)) (inner := []) (ok := fun _ => True) (okp := fun _ => True) ?hr ?hp (fun _ hk => hk) trivial (Below.refl _ _) (Nat.le_refl _) (by simp) ?_; (case hd => rfl); (case hg => rfl); (case hr => first | (go_simp; done) | (go_simp; rfl)); (case hp => exact (Reps.none _ _)); intro v425 w44 ho45 hb hg_ hnew_; clear hg_ hnew_; (first | rw [← Ny424.out] at ho45 | (simp only [Int.reduceToNat] at ho45; rw [← Ny424.out] at ho45)); have n0_ := zM (Kd.R_elder' (by (with_reducible repeat (first | apply zR | apply zS | apply zT)); exact HO423.out) (Kd.R_base ho45) hb); have n1_ := zM (Kd.R_lower (Kd.R_new' ho45 (Kd.R_lt (by (with_reducible repeat (first | apply zR | apply zS | apply zT)); exact HO423.out))) (zI (by repeat (first | (with_reducible first | exact HB.out | apply zU | apply zV | apply zW | refine zH ?_ (IsS69.ge HI395.out)) | exact HB.out)))); have n2_ := zM (IsS69.below (by repeat (first | (with_reducible first | exact HI395.out | apply IsS69.alloc | apply IsS69.drewN | apply IsS69.drew | apply IsS69.set_1) | exact HI395.out)) hb); have n3_ := zM (zG (by repeat (first | (with_reducible first | exact HB.out | apply zU | apply zV | apply zW | refine zH ?_ (IsS69.ge HI395.out)) | exact HB.out)) hb); clear HO423; clear HI395; clear HB; have HO423 := n0_; have HO426 := n1_; have HI395 := n2_; have HB := n3_; clear n0_ n1_ n2_ n3_; clear hb ho45) | ((with_reducible refine gate_builtin (b := .append) (xs := #[.tmp 54, .tmp 55]) rfl ?_); at_builtin; refine Kd.R_append_rows (Kd.int .u8) (w0 := w) w.heap.size rfl (.tmp 54) (.tmp 55) 25 5 (.int .u8 0) 1 rfl Try.underlying25 info5 rfl (by decide) (by omega) v425 y424 y421 _ _ _ (fun k_ => some k_ ≠ (.slice Ao40 y421.length co40 : Value).ownBlock) (fun _ => False) rfl rfl ?aO ?aR (fun _ _ h => h) (fun _ h => h.elim) ?aF ?aB ?aS ?aL ?_; (case aR => repeat (first | exact (Kd.R_reads' HO423.out).2.2 | (with_reducible refine zQ ?_ _) | (with_reducible refine zO ?_ _) | (with_reducible refine zP ?_))); (case aB => exact (by repeat (first | (with_reducible first | exact HB.out | apply zU | apply zV | apply zW | refine zH ?_ (IsS69.ge HI395.out)) | exact HB.out))); (case aF => exact (fun k_ hk => Kd.fresh' (Kd.R_lt (by (with_reducible repeat (first | apply zR | apply zS | apply zT)); exact HO423.out)) k_ hk)); (case aO => exact (by (with_reducible repeat (first | apply zR | apply zS | apply zT)); exact Kd.R_mono HO426.out (fun _ hk => hk.2))); (case aS => exact (zI (by repeat (first | (with_reducible first | exact HB.out | apply zU | apply zV | apply zW | refine zH ?_ (IsS69.ge HI395.out)) | exact HB.out)))); (case aL => have := LMc39.out; omega); intro v428 w46 ho hb hg hat; rw [← Ny427.out] at ho; have n0_ := zM (Kd.R_after (ok := (fun _ => True)) (by (with_reducible repeat (first | apply zR | apply zS | apply zT)); exact HO423.out) hg hat); have n1_ := zM (IsS69.grown (by repeat (first | (with_reducible first | exact HI395.out | apply IsS69.alloc | apply IsS69.drewN | apply IsS69.drew | apply IsS69.set_1) | exact HI395.out)) hg (IsS69.own_ne HI395.out HO426.out (by decide))); have n2_ := zM (hb); have n3_ := zM (ho); clear HO423; clear HI395; clear HB; clear HO426; have HO423 := n0_; have HI395 := n1_; have HB := n2_; have HO429 := n3_; clear n0_ n1_ n2_ n3_; clear ho hb hg hat))
             go_ret
             exact ⟨_, by first | rfl | (simp [errW_none, errW_some] <;> rfl) | (simp [*, errW_none, errW_some] <;> rfl), by (with_reducible repeat (first | apply zR | apply zS | apply zT)); exact Kd.R_mono HO429.out (fun _ hk => trivial), by repeat (first | (with_reducible first | exact HB.out | apply zU | apply zV | apply zW | refine zH ?_ (IsS69.ge HI395.out)) | exact HB.out)⟩
            ·
             rw [if_neg c39] at H
             exact absurd H (by simp)
           ·
            rw [if_neg c38] at H
            exact absurd H (by simp)
          ·
           rw [if_neg c37] at H
           exact absurd H (by simp)
         ·
          rw [if_neg c35] at H
          have c35b0 : (t417 == 0) = false := beq_eq_false_iff_ne.mpr c35
          have c35b1 : (t417 != 0) = true := bne_iff_ne.mpr c35
          obtain ⟨y430, hy430⟩ : ∃ y_ : List Int, y_ = (([] : List Int)) := ⟨_, rfl⟩
          replace H : (if y430.length + x4_20.length < 140737488355328 then (some (y430 ++ x4_20)) else (none)) = some r := by first | (rw [hy430]; with_reducible exact H) | (have H2_ := (Option.bind_some _ _).symm.trans H; rw [hy430]; with_reducible exact H2_) | (have H2_ := (Option.bind_some _ _).symm.trans H; with_reducible exact H2_) | with_reducible exact H | (rw [hy430]; exact H) | exact H
          have Ny430 := zM hy430
          clear hy430
          by_cases c47 : y430.length + x4_20.length < 140737488355328
          ·
           rw [if_pos c47] at H
           have LMc47 := zM c47
           clear c47
           obtain ⟨y433, hy433⟩ : ∃ y_ : List Int, y_ = (y430 ++ x4_20) := ⟨_, rfl⟩
           replace H : (some y433) = some r := by first | (rw [hy433]; with_reducible exact H) | (have H2_ := (Option.bind_some _ _).symm.trans H; rw [hy433]; with_reducible exact H2_) | (have H2_ := (Option.bind_some _ _).symm.trans H; with_reducible exact H2_) | with_reducible exact H | (rw [hy433]; exact H) | exact H
           have Ny433 := zM hy433
           clear hy433
           obtain rfl := Option.some.inj H
           obtain ⟨Ao48, co48, eo48⟩ := Kd.R_slice HO_4.out
           subst eo48
           go_wp2_with (first | (go_at_call 57; (with_reducible refine (spec_l20Rd_pick.calls kj20 g395 t393 x396001_20 5 t417 t418 w _ ?side1 ?side2 A34.out).mono ?_); (case side1 => repeat (first | (with_reducible first | exact HI395.out | apply IsS69.alloc | apply IsS69.drewN | apply IsS69.drew | apply IsS69.set_1) | exact HI395.out)); (case side2 => repeat (first | (with_reducible first | exact HB.out | apply zU | apply zV | apply zW | refine zH ?_ (IsS69.ge HI395.out)) | exact HB.out)); rintro e w49 ⟨rfl, hi, hb, hk⟩; have n0_ := zM (Kd.R_mono (Kd.R_keep (IsS69.apart (show IsS69 w _ g395 t393 x396001_20 from by repeat (first | (with_reducible first | exact HI395.out | apply IsS69.alloc | apply IsS69.drewN | apply IsS69.drew | apply IsS69.set_1) | exact HI395.out)) (by (with_reducible repeat (first | apply zR | apply zS | apply zT)); exact HO_4.out) (by decide)) hk (fun _ h => h.2)) (fun _ h => h.1)); have n1_ := zM (hb); have n2_ := zM (hi); clear HO_4; clear HB; clear HI395; have HO_4 := n0_; have HB := n1_; have HI395 := n2_; clear n0_ n1_ n2_; (try clear hb); (try clear hb2); (try clear hk); (try clear hi)) | ((with_reducible refine gate_dst (N := 54) rfl ?_); refine Kd.R_lit (Kd.int .u8) _ 5 ?hg (N := 54) ?hd (xs := ([] : List Int)) (inner := []) (ok := fun _ => True) (okp := fun _ => True) ?hr ?hp (fun _ hk => hk) trivial (Below.refl _ _) (Nat.le_refl _) (by simp) ?_; (case hd => rfl); (case hg => rfl); (case hr => first | (go_simp; done) | (go_simp; rfl)); (case hp => exact (Reps.none _ _)); intro v431 w50 ho51 hb hg_ hnew_; clear hg_ hnew_; (first | rw [← Ny430.out] at ho51 | (simp only [Int.reduceToNat] at ho51; rw [← Ny430.out] at ho51)); have n0_ := zM (Kd.R_elder' (by (with_reducible repeat (first | apply zR | apply zS | apply zT)); exact HO_4.out) (Kd.R_base ho51) hb); have n1_ := zM (Kd.R_lower (Kd.R_new' ho51 (Kd.R_lt (by (with_reducible repeat (first | apply zR | apply zS | apply zT)); exact HO_4.out))) (zI (by repeat (first | (with_reducible first | exact HB.out | apply zU | apply zV | apply zW | refine zH ?_ (IsS69.ge HI395.out)) | exact HB.out)))); have n2_ := zM (IsS69.below (by repeat (first | (with_reducible first | exact HI395.out | apply IsS69.alloc | apply IsS69.drewN | apply IsS69.drew | apply IsS69.set_1) | exact HI395.out)) hb); have n3_ := zM (zG (by repeat (first | (with_reducible first | exact HB.out | apply zU | apply zV | apply zW | refine zH ?_ (IsS69.ge HI395.out)) | exact HB.out)) hb); clear HO_4; clear HI395; clear HB; have HO_4 := n0_; have HO432 := n1_; have HI395 := n2_; have HB := n3_; clear n0_ n1_ n2_ n3_; clear hb ho51) | ((with_reducible refine gate_builtin (b := .append) (xs := #[.tmp 54, .tmp 55]) rfl ?_); at_builtin; refine Kd.R_append_rows (Kd.int .u8) (w0 := w) w.heap.size rfl (.tmp 54) (.tmp 55) 25 5 (.int .u8 0) 1 rfl Try.underlying25 info5 rfl (by decide) (by omega) v431 y430 x4_20 _ _ _ (fun k_ => some k_ ≠ (.slice Ao48 x4_20.length co48 : Value).ownBlock) (fun _ => False) rfl rfl ?aO ?aR (fun _ _ h => h) (fun _ h => h.elim) ?aF ?aB ?aS ?aL ?_; (case aR => repeat (first | exact (Kd.R_reads' HO_4.out).2.2 | (with_reducible refine zQ ?_ _) | (with_reducible refine zO ?_ _) | (with_reducible refine zP ?_))); (case aB => exact (by repeat (first | (with_reducible first | exact HB.out | apply zU | apply zV | apply zW | refine zH ?_ (IsS69.ge HI395.out)) | exact HB.out))); (case aF => exact (fun k_ hk => Kd.fresh' (Kd.R_lt (by (with_reducible repeat (first | apply zR | apply zS | apply zT)); exact HO_4.out)) k_ hk)); (case aO => exact (by (with_reducible repeat (first | apply zR | apply zS | apply zT)); exact Kd.R_mono HO432.out (fun _ hk => hk.2))); (case aS => exact (zI (by repeat (first | (with_reducible first | exact HB.out | apply zU | apply zV | apply zW | refine zH ?_ (IsS69.ge HI395.out)) | exact HB.out)))); (case aL => have := LMc47.out; omega); intro v434 w52 ho hb hg hat; rw [← Ny433.out] at ho; have n0_ := zM (Kd.R_after (ok := (fun _ => True)) (by (with_reducible repeat (first | apply zR | apply zS | apply zT)); exact HO_4.out) hg hat); have n1_ := zM (IsS69.grown (by repeat (first | (with_reducible first | exact HI395.out | apply IsS69.alloc | apply IsS69.drewN | apply IsS69.drew | apply IsS69.set_1) | exact HI395.out)) hg (IsS69.own_ne HI395.out HO432.out (by decide))); have n2_ := zM (hb); have n3_ := zM (ho); clear HO_4; clear HI395; clear HB; clear HO432; have HO_4 := n0_; have HI395 := n1_; have HB := n2_; have HO435 := n3_; clear n0_ n1_ n2_ n3_; clear ho hb hg hat))
           go_ret
           exact ⟨_, by first | rfl | (simp [errW_none, errW_some] <;> rfl) | (simp [*, errW_none, errW_some] <;> rfl), by (with_reducible repeat (first | apply zR | apply zS | apply zT)); exact Kd.R_mono HO435.out (fun _ hk => trivial), by repeat (first | (with_reducible first | exact HB.out | apply zU | apply zV | apply zW | refine zH ?_ (IsS69.ge HI395.out)) | exact HB.out)⟩
          ·
           rw [if_neg c47] at H
           exact absurd H (by simp)
        ·
         rw [if_neg c33] at H
         have c33b0 : decide (0 < (x4_20.length : Int)) = false := decide_eq_false c33
         have c33b1 : decide (0 < x4_20.length) = false := decide_eq_false (by omega)
         clear c33
         obtain ⟨y436, hy436⟩ : ∃ y_ : List Int, y_ = (([] : List Int)) := ⟨_, rfl⟩
         replace H : (if y436.length + x4_20.length < 140737488355328 then (some (y436 ++ x4_20)) else (none)) = some r := by first | (rw [hy436]; with_reducible exact H) | (have H2_ := (Option.bind_some _ _).symm.trans H; rw [hy436]; with_reducible exact H2_) | (have H2_ := (Option.bind_some _ _).symm.trans H; with_reducible exact H2_) | with_reducible exact H | (rw [hy436]; exact H) | exact H
         have Ny436 := zM hy436
         clear hy436
         by_cases c53 : y436.length + x4_20.length < 140737488355328
         ·
          rw [if_pos c53] at H
          have LMc53 := zM c53
          clear c53
          obtain ⟨y439, hy439⟩ : ∃ y_ : List Int, y_ = (y436 ++ x4_20) := ⟨_, rfl⟩
          replace H : (some y439) = some r := by first | (rw [hy439]; with_reducible exact H) | (have H2_ := (Option.bind_some _ _).symm.trans H; rw [hy439]; with_reducible exact H2_) | (have H2_ := (Option.bind_some _ _).symm.trans H; with_reducible exact H2_) | with_reducible exact H | (rw [hy439]; exact H) | exact H
          have Ny439 := zM hy439
          clear hy439
          obtain rfl := Option.some.inj H
          obtain ⟨Ao54, co54, eo54⟩ := Kd.R_slice HO_4.out
          subst eo54
          go_wp2_with (first | ((with_reducible refine gate_dst (N := 54) rfl ?_); refine Kd.R_lit (Kd.int .u8) _ 5 ?hg (N := 54) ?hd (xs := ([] : List Int)) (inner := []) (ok := fun _ => True) (okp := fun _ => True) ?hr ?hp (fun _ hk => hk) trivial (Below.refl _ _) (Nat.le_refl _) (by simp) ?_; (case hd => rfl); (case hg => rfl); (case hr => first | (go_simp; done) | (go_simp; rfl)); (case hp => exact (Reps.none _ _)); intro v437 w55 ho56 hb hg_ hnew_; clear hg_ hnew_; (first | rw [← Ny436.out] at ho56 | (simp only [Int.reduceToNat] at ho56; rw [← Ny436.out] at ho56)); have n0_ := zM (Kd.R_elder' (by (with_reducible repeat (first | apply zR | apply zS | apply zT)); exact HO_4.out) (Kd.R_base ho56) hb); have n1_ := zM (Kd.R_lower (Kd.R_new' ho56 (Kd.R_lt (by (with_reducible repeat (first | apply zR | apply zS | apply zT)); exact HO_4.out))) (zI (by repeat (first | (with_reducible first | exact HB.out | apply zU | apply zV | apply zW | refine zH ?_ (IsS69.ge HI395.out)) | exact HB.out)))); have n2_ := zM (IsS69.below (by repeat (first | (with_reducible first | exact HI395.out | apply IsS69.alloc | apply IsS69.drewN | apply IsS69.drew | apply IsS69.set_1) | exact HI395.out)) hb); have n3_ := zM (zG (by repeat (first | (with_reducible first | exact HB.out | apply zU | apply zV | apply zW | refine zH ?_ (IsS69.ge HI395.out)) | exact HB.out)) hb); clear HO_4; clear HI395; clear HB; have HO_4 := n0_; have HO438 := n1_; have HI395 := n2_; have HB := n3_; clear n0_ n1_ n2_ n3_; clear hb ho56) | ((with_reducible refine gate_builtin (b := .append) (xs := #[.tmp 54, .tmp 55]) rfl ?_); at_builtin; refine Kd.R_append_rows (Kd.int .u8) (w0 := w) w.heap.size rfl (.tmp 54) (.tmp 55) 25 5 (.int .u8 0) 1 rfl Try.underlying25 info5 rfl (by decide) (by omega) v437 y436 x4_20 _ _ _ (fun k_ => some k_ ≠ (.slice Ao54 x4_20.length co54 : Value).ownBlock) (fun _ => False) rfl rfl ?aO ?aR (fun _ _ h => h) (fun _ h => h.elim) ?aF ?aB ?aS ?aL ?_; (case aR => repeat (first | exact (Kd.R_reads' HO_4.out).2.2 | (with_reducible refine zQ ?_ _) | (with_reducible refine zO ?_ _) | (with_reducible refine zP ?_))); (case aB => exact (by repeat (first | (with_reducible first | exact HB.out | apply zU | apply zV | apply zW | refine zH ?_ (IsS69.ge HI395.out)) | exact HB.out))); (case aF => exact (fun k_ hk => Kd.fresh' (Kd.R_lt (by (with_reducible repeat (first | apply zR | apply zS | apply zT)); exact HO_4.out)) k_ hk)); (case aO => exact (by (with_reducible repeat (first | apply zR | apply zS | apply zT)); exact Kd.R_mono HO438.out (fun _ hk => hk.2))); (case aS => exact (zI (by repeat (first | (with_reducible first | exact HB.out | apply zU | apply zV | apply zW | refine zH ?_ (IsS69.ge HI395.out)) | exact HB.out)))); (case aL => have := LMc53.out; omega); intro v440 w57 ho hb hg hat; rw [← Ny439.out] at ho; have n0_ := zM (Kd.R_after (ok := (fun _ => True)) (by (with_reducible repeat (first | apply zR | apply zS | apply zT)); exact HO_4.out) hg hat); have n1_ := zM (IsS69.grown (by repeat (first | (with_reducible first | exact HI395.out | apply IsS69.alloc | apply IsS69.drewN | apply IsS69.drew | apply IsS69.set_1) | exact HI395.out)) hg (IsS69.own_ne HI395.out HO438.out (by decide))); have n2_ := zM (hb); have n3_ := zM (ho); clear HO_4; clear HI395; clear HB; clear HO438; have HO_4 := n0_; have HI395 := n1_; have HB := n2_; have HO441 := n3_; clear n0_ n1_ n2_ n3_; clear ho hb hg hat))
          go_ret
          exact ⟨_, by first | rfl | (simp [errW_none, errW_some] <;> rfl) | (simp [*, errW_none, errW_some] <;> rfl), by (with_reducible repeat (first | apply zR | apply zS | apply zT)); exact Kd.R_mono HO441.out (fun _ hk => trivial), by repeat (first | (with_reducible first | exact HB.out | apply zU | apply zV | apply zW | refine zH ?_ (IsS69.ge HI395.out)) | exact HB.out)⟩
         ·
          rw [if_neg c53] at H
          exact absurd H (by simp)
end

end Go.Proofs.Ytdgikheibcmcjaa.X
