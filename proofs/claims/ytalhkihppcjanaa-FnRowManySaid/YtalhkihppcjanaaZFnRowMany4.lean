/- Plain functions for the Go functions of this seat, and proofs that each call answers as its plain function does; made by this session's program over the kit's printer. -/
import Derived.Test.YtalhkihppcjanaaUX0
import Derived.Test.YtalhkihppcjanaaZFnRowMany3
namespace Go.Proofs.Ytalhkihppcjanaa.X
open Go.RowKit Go.Proofs.YtalhkihppcjanaaV.PrintWords Go.Proofs.YtalhkihppcjanaaV.PrintLast Go.Proofs.YtalhkihppcjanaaV.PrintMore
attribute [local go_sem] max2_int min2_int max_two min_two max_three min_three max_four min_four   -- for this text's walks alone
set_option linter.unusedVariables false
set_option linter.unusedSimpArgs false

open Go.Proofs.YtalhkihppcjanaaV.PrintWords renaming below_alloc → zU, pw_below_drewN → zV, below_drew1 → zW, blk_drewN → zX, blk_drew → zY, blk_alloc → zZ, blk_frozen → zF, blk_cell → zK, below_step → zG, below_set → zH, below_size → zI, blk_below → zJ
open Go.Proofs.YtalhkihppcjanaaV.PrintWords.Kd renaming R_alloc → zR, R_drewN → zS, R_drew → zT, C_alloc → zQ, C_drewN → zO, C_drew → zP
section
/-! ### spec_l20Value: function 93 -/
mutual
def spec_l20Value.j3 : Nat → Int → List Int → Int → Int → Int → ByteArray → Option (Int × Int × ByteArray × Int)
 | 0, _, _, _, _, _, _ => none
 | k + 1, x1, x1000, x1001, x347000, x347001, x347002 => (spec_l20Rd_odd.f k x1000 x1001 x1).bind fun bt368 => (if bt368.1 = true then ((spec_l20Rd_pick.f k x1000 bt368.2 4).bind fun bt370 => (if bt370.1 = 0 then (some (x347000, 10000, x347002, bt370.2)) else (if bt370.1 = 1 then (if x347002.size + 7 ≤ 9223372036854775807 then (some (x347000, x347001, x347002 ++ (⟨#[97, 98, 99, 100, 101, 102, 103]⟩ : ByteArray), bt370.2)) else (none)) else (if bt370.1 = 2 then ((spec_l20Rd_pick.f k x1000 bt370.2 7).bind fun bt372 => (some (wrap64 (bt372.1 - 1), x347001, x347002, bt372.2))) else (if x347002.size + 1 ≤ 9223372036854775807 then (some (x347000, x347001, x347002 ++ (⟨#[65]⟩ : ByteArray), bt370.2)) else (none)))))) else (some (x347000, x347001, x347002, bt368.2)))
def spec_l20Value.j0 : Nat → Int → Int → Bool → List Int → Int → Option (Int × Int × ByteArray × Int)
 | 0, _, _, _, _, _ => none
 | k + 1, x1, x9, x15, x1000, x1001 => if x15 = true then ((spec_l20Rd_pick.f k x1000 x1001 7).bind fun bt349 => ((spec_l20Rd_pick.f k x1000 bt349.2 8).bind fun bt351 => (if bt351.1 = 0 then ((some (([9999, (-9999), 255, 256, (-256)] : List Int) : List Int)).bind fun y353 => ((spec_l20Rd_pick.f k x1000 bt351.2 5).bind fun bt356 => (if 0 ≤ bt356.1 then (if bt356.1 < (y353.length : Int) then (spec_l20Value.j3 k x1 x1000 bt356.2 1 (rd y353 bt356.1) (⟨#[]⟩ : ByteArray)) else (none)) else (none)))) else (spec_l20Value.j3 k x1 x1000 bt351.2 1 (wrap64 (bt349.1 - 3)) (⟨#[]⟩ : ByteArray))))) else (if x9 = 4 then (spec_l20Value.j1 k x1 (x9 == 4) x1000 x1001) else (spec_l20Value.j1 k x1 (x9 == 5) x1000 x1001))
def spec_l20Value.j1 : Nat → Int → Bool → List Int → Int → Option (Int × Int × ByteArray × Int)
 | 0, _, _, _, _ => none
 | k + 1, x1, x32, x1000, x1001 => if x32 = true then ((spec_l20Rd_pick.f k x1000 x1001 4).bind fun bt359 => (spec_l20Value.l0 k x1 bt359.1 x1000 bt359.2 2 0 (⟨#[]⟩ : ByteArray))) else ((spec_l20Rd_pick.f k x1000 x1001 2).bind fun bt366 => (spec_l20Value.j3 k x1 x1000 bt366.2 3 bt366.1 (⟨#[]⟩ : ByteArray)))
def spec_l20Value.l0 : Nat → Int → Int → List Int → Int → Int → Int → ByteArray → Option (Int × Int × ByteArray × Int)
 | 0, _, _, _, _, _, _, _ => none
 | k + 1, x1, x6, x1000, x1001, x347000, x347001, x347002 => if x6 > 0 then ((spec_l20Rd_pick.f k x1000 x1001 3).bind fun bt361 => ((some (([(wrap64 (97 + bt361.1)) % 256] : List Int) : List Int)).bind fun y363 => (if x347002.size + (strOfNums y363).size ≤ 9223372036854775807 then (spec_l20Value.l0 k x1 (wrap64 (x6 - 1)) x1000 bt361.2 x347000 x347001 (x347002 ++ (strOfNums y363))) else (none)))) else (spec_l20Value.j3 k x1 x1000 x1001 x347000 x347001 x347002)
end
def spec_l20Value.f (k : Nat) (s0_0 : List Int) (s0_1 : Int) (a1 : Int) : Option (Int × Int × ByteArray × Int) := (spec_l20Rd_pick.f k s0_0 s0_1 7).bind fun bt347 => (if bt347.1 = 0 then (spec_l20Value.j3 k a1 s0_0 bt347.2 0 0 (⟨#[]⟩ : ByteArray)) else (if bt347.1 = 1 then (spec_l20Value.j0 k a1 bt347.1 (bt347.1 == 1) s0_0 bt347.2) else (if bt347.1 = 2 then (spec_l20Value.j0 k a1 bt347.1 (bt347.1 == 2) s0_0 bt347.2) else (spec_l20Value.j0 k a1 bt347.1 (bt347.1 == 3) s0_0 bt347.2))))
theorem spec_l20Value.mono_l : ∀ k, (∀ y0 y1 y2 y3 y4 y5, LeO (spec_l20Value.j3 k y0 y1 y2 y3 y4 y5) (spec_l20Value.j3 (k + 1) y0 y1 y2 y3 y4 y5)) ∧ (∀ y0 y1 y2 y3 y4, LeO (spec_l20Value.j0 k y0 y1 y2 y3 y4) (spec_l20Value.j0 (k + 1) y0 y1 y2 y3 y4)) ∧ (∀ y0 y1 y2 y3, LeO (spec_l20Value.j1 k y0 y1 y2 y3) (spec_l20Value.j1 (k + 1) y0 y1 y2 y3)) ∧ (∀ y0 y1 y2 y3 y4 y5 y6, LeO (spec_l20Value.l0 k y0 y1 y2 y3 y4 y5 y6) (spec_l20Value.l0 (k + 1) y0 y1 y2 y3 y4 y5 y6))
 | 0 => ⟨fun _ _ _ _ _ _ r h => by simp [spec_l20Value.j3] at h, fun _ _ _ _ _ r h => by simp [spec_l20Value.j0] at h, fun _ _ _ _ r h => by simp [spec_l20Value.j1] at h, fun _ _ _ _ _ _ _ r h => by simp [spec_l20Value.l0] at h⟩
 | k + 1 => by
  obtain ⟨ih0, ih1, ih2, ih3⟩ := spec_l20Value.mono_l k
  refine ⟨?_, ?_, ?_, ?_⟩
  ·
   intro y0 y1 y2 y3 y4 y5
   unfold spec_l20Value.j3
   repeat' first
   | (with_reducible exact ih0 _ _ _ _ _ _)
   | (with_reducible exact ih1 _ _ _ _ _)
   | (with_reducible exact ih2 _ _ _ _)
   | (with_reducible exact ih3 _ _ _ _ _ _ _)
   | (with_reducible exact spec_l20Rd_odd.mono _ _ _ _)
   | (with_reducible exact spec_l20Rd_pick.mono _ _ _ _)
   | (with_reducible exact LeO.refl _)
   | (with_reducible exact LeO.none _)
   | (with_reducible refine LeO.ite ?_ ?_)
   | (with_reducible refine LeO.bind ?_ (fun _ => ?_))
   | exact ih0 _ _ _ _ _ _
   | exact ih1 _ _ _ _ _
   | exact ih2 _ _ _ _
   | exact ih3 _ _ _ _ _ _ _
   | exact spec_l20Rd_odd.mono _ _ _ _
   | exact spec_l20Rd_pick.mono _ _ _ _
   | exact LeO.none _
   | refine LeO.ite ?_ ?_
   | refine LeO.bind ?_ (fun _ => ?_)
  ·
   intro y0 y1 y2 y3 y4
   unfold spec_l20Value.j0
   repeat' first
   | (with_reducible exact ih0 _ _ _ _ _ _)
   | (with_reducible exact ih1 _ _ _ _ _)
   | (with_reducible exact ih2 _ _ _ _)
   | (with_reducible exact ih3 _ _ _ _ _ _ _)
   | (with_reducible exact spec_l20Rd_odd.mono _ _ _ _)
   | (with_reducible exact spec_l20Rd_pick.mono _ _ _ _)
   | (with_reducible exact LeO.refl _)
   | (with_reducible exact LeO.none _)
   | (with_reducible refine LeO.ite ?_ ?_)
   | (with_reducible refine LeO.bind ?_ (fun _ => ?_))
   | exact ih0 _ _ _ _ _ _
   | exact ih1 _ _ _ _ _
   | exact ih2 _ _ _ _
   | exact ih3 _ _ _ _ _ _ _
   | exact spec_l20Rd_odd.mono _ _ _ _
   | exact spec_l20Rd_pick.mono _ _ _ _
   | exact LeO.none _
   | refine LeO.ite ?_ ?_
   | refine LeO.bind ?_ (fun _ => ?_)
  ·
   intro y0 y1 y2 y3
   unfold spec_l20Value.j1
   repeat' first
   | (with_reducible exact ih0 _ _ _ _ _ _)
   | (with_reducible exact ih1 _ _ _ _ _)
   | (with_reducible exact ih2 _ _ _ _)
   | (with_reducible exact ih3 _ _ _ _ _ _ _)
   | (with_reducible exact spec_l20Rd_odd.mono _ _ _ _)
   | (with_reducible exact spec_l20Rd_pick.mono _ _ _ _)
   | (with_reducible exact LeO.refl _)
   | (with_reducible exact LeO.none _)
   | (with_reducible refine LeO.ite ?_ ?_)
   | (with_reducible refine LeO.bind ?_ (fun _ => ?_))
   | exact ih0 _ _ _ _ _ _
   | exact ih1 _ _ _ _ _
   | exact ih2 _ _ _ _
   | exact ih3 _ _ _ _ _ _ _
   | exact spec_l20Rd_odd.mono _ _ _ _
   | exact spec_l20Rd_pick.mono _ _ _ _
   | exact LeO.none _
   | refine LeO.ite ?_ ?_
   | refine LeO.bind ?_ (fun _ => ?_)
  ·
   intro y0 y1 y2 y3 y4 y5 y6
   unfold spec_l20Value.l0
   repeat' first
   | (with_reducible exact ih0 _ _ _ _ _ _)
   | (with_reducible exact ih1 _ _ _ _ _)
   | (with_reducible exact ih2 _ _ _ _)
   | (with_reducible exact ih3 _ _ _ _ _ _ _)
   | (with_reducible exact spec_l20Rd_odd.mono _ _ _ _)
   | (with_reducible exact spec_l20Rd_pick.mono _ _ _ _)
   | (with_reducible exact LeO.refl _)
   | (with_reducible exact LeO.none _)
   | (with_reducible refine LeO.ite ?_ ?_)
   | (with_reducible refine LeO.bind ?_ (fun _ => ?_))
   | exact ih0 _ _ _ _ _ _
   | exact ih1 _ _ _ _ _
   | exact ih2 _ _ _ _
   | exact ih3 _ _ _ _ _ _ _
   | exact spec_l20Rd_odd.mono _ _ _ _
   | exact spec_l20Rd_pick.mono _ _ _ _
   | exact LeO.none _
   | refine LeO.ite ?_ ?_
   | refine LeO.bind ?_ (fun _ => ?_)
theorem spec_l20Value.mono : ∀ a0 a1 a2 k, LeO (spec_l20Value.f k a0 a1 a2) (spec_l20Value.f (k + 1) a0 a1 a2) := by
 intro a0 a1 a2 k
 obtain ⟨ih0, ih1, ih2, ih3⟩ := spec_l20Value.mono_l k
 unfold spec_l20Value.f
 repeat' first
   | (with_reducible exact ih0 _ _ _ _ _ _)
   | (with_reducible exact ih1 _ _ _ _ _)
   | (with_reducible exact ih2 _ _ _ _)
   | (with_reducible exact ih3 _ _ _ _ _ _ _)
   | (with_reducible exact spec_l20Rd_odd.mono _ _ _ _)
   | (with_reducible exact spec_l20Rd_pick.mono _ _ _ _)
   | (with_reducible exact LeO.refl _)
   | (with_reducible exact LeO.none _)
   | (with_reducible refine LeO.ite ?_ ?_)
   | (with_reducible refine LeO.bind ?_ (fun _ => ?_))
   | exact ih0 _ _ _ _ _ _
   | exact ih1 _ _ _ _ _
   | exact ih2 _ _ _ _
   | exact ih3 _ _ _ _ _ _ _
   | exact spec_l20Rd_odd.mono _ _ _ _
   | exact spec_l20Rd_pick.mono _ _ _ _
   | exact LeO.none _
   | refine LeO.ite ?_ ?_
   | refine LeO.bind ?_ (fun _ => ?_)
def spec_l20Value.T17 : Bool × List (List Nat × List Nat) := (true, [([], []), ([0], [0]), ([], []), ([2], [2]), ([3], [3]), ([4], [4]), ([5], [5]), ([6], [6]), ([1, 7], [1, 7]), ([0, 1, 2, 3, 4, 5, 6, 7, 8], []), ([9, 8, 3, 0, 1, 2, 3, 4, 5, 6, 7, 8], [8, 9])])
def spec_l20Value.B17 : List Nat := [0, 1, 0, 4, 12, 28, 60, 124, 255, 511, 1023]
theorem spec_l20Value.tab17 : rtab .any (opsOf Try.f93 17) = spec_l20Value.T17 := by kernel_rfl
theorem spec_l20Value.bits17 : waitsOk spec_l20Value.T17.2 spec_l20Value.B17 = true := by kernel_rfl
set_option maxHeartbeats 8000000 in
set_option maxRecDepth 100000 in
theorem spec_l20Value.calls (k : Nat) (g : Nat) (s0_0 : List Int) (s0_1 : Int) (a1 : Int) (r1 : Int) (r2 : Int) (r3 : ByteArray) (r4 : Int) (w0 w : World) (hI : IsS111 w0 w g s0_0 s0_1) (hB : Below w0.heap.size w0 w) (h : spec_l20Value.f k s0_0 s0_1 a1 = some (r1, r2, r3, r4)) :
  Calls Try.prog 93 #[.pointer (some ⟨g, 0, none⟩), .int .i64 a1] w fun e w' => e = .returned (.agg #[.int .i64 r1, .int .i64 r2, .string r3]) ∧ IsS111 w0 w' g s0_0 r4 ∧ Below w0.heap.size w0 w' ∧ KeepBut w w' g none := by
 have hu83 := Try.underlying83
 have HI0 := zM hI
 have HK := zM (KeepBut.refl w g none)
 have HL := zM hB.size
 clear hI
 have HW0 := zM hB.size
 have HB := zM hB
 clear hB
 have H : ((spec_l20Rd_pick.f k s0_0 s0_1 7).bind fun bt347 => (if bt347.1 = 0 then (spec_l20Value.j3 k a1 s0_0 bt347.2 0 0 (⟨#[]⟩ : ByteArray)) else (if bt347.1 = 1 then (spec_l20Value.j0 k a1 bt347.1 (bt347.1 == 1) s0_0 bt347.2) else (if bt347.1 = 2 then (spec_l20Value.j0 k a1 bt347.1 (bt347.1 == 2) s0_0 bt347.2) else (spec_l20Value.j0 k a1 bt347.1 (bt347.1 == 3) s0_0 bt347.2))))) = some (r1, r2, r3, r4) := h
 clear h
 replace H := Option.bind_eq_some_iff.mp H
 obtain ⟨⟨t347, t348⟩, A30, H⟩ := H
 replace H : (if t347 = 0 then (spec_l20Value.j3 k a1 s0_0 t348 0 0 (⟨#[]⟩ : ByteArray)) else (if t347 = 1 then (spec_l20Value.j0 k a1 t347 (t347 == 1) s0_0 t348) else (if t347 = 2 then (spec_l20Value.j0 k a1 t347 (t347 == 2) s0_0 t348) else (spec_l20Value.j0 k a1 t347 (t347 == 3) s0_0 t348)))) = some (r1, r2, r3, r4) := H
 have A3 := zM A30
 clear A30
 have HC4 := zM H
 clear H
 go_enter Try.func93, Try.ntmps93
 go_upto_block 0 with (first | ((with_reducible refine gate_dst (N := 4) rfl ?_); refine box_event ?hg (N := 4) ?hd (cs := #[.int .i64 0, .int .i64 0, .string (⟨#[]⟩ : ByteArray)]) (t := 83) ?hr ?_; (case hd => rfl); (case hg => rfl); (case hr => first | (go_simp; done) | (go_simp; rfl)); intro gb345 hg w5 hbox hb; have n0_ := zM (IsS111.below (by repeat (first | (with_reducible first | exact HI0.out | apply IsS111.alloc | apply IsS111.drewN | apply IsS111.drew | apply IsS111.set_1) | exact HI0.out)) hb); have n1_ := zM (KeepBut.trans (by repeat (first | (with_reducible first | exact HK.out | apply KeepBut.set_ | apply keep_drewN | apply keep_drew | apply keep_alloc) | exact HK.out)) (KeepBut.of_below hb g none) (.inl rfl)); have n2_ := zM (zG (by repeat (first | (with_reducible first | exact HB.out | apply zU | apply zV | apply zW | refine zH ?_ (IsS111.ge HI0.out)) | exact HB.out)) hb); have n3_ := zM (hbox); have n4_ := zM ((by rw [hg]; exact (keep_size (w := w) (g := g) (row := none) (by repeat (first | (with_reducible first | exact HK.out | apply KeepBut.set_ | apply keep_drewN | apply keep_drew | apply keep_alloc) | exact HK.out))) : w.heap.size ≤ gb345)); have n5_ := zM ((Nat.le_trans HW0.out (by rw [hg]; exact (keep_size (w := w) (g := g) (row := none) (by repeat (first | (with_reducible first | exact HK.out | apply KeepBut.set_ | apply keep_drewN | apply keep_drew | apply keep_alloc) | exact HK.out))) : w.heap.size ≤ gb345) : w0.heap.size ≤ gb345)); have n6_ := zM ((by rw [hg]; exact Nat.ne_of_lt (IsS111.lt (show IsS111 w0 _ g s0_0 s0_1 from by repeat (first | (with_reducible first | exact HI0.out | apply IsS111.alloc | apply IsS111.drewN | apply IsS111.drew | apply IsS111.set_1) | exact HI0.out))) : g ≠ gb345)); have n7_ := zM ((by rw [hg]; exact Nat.ne_of_gt (IsS111.lt (show IsS111 w0 _ g s0_0 s0_1 from by repeat (first | (with_reducible first | exact HI0.out | apply IsS111.alloc | apply IsS111.drewN | apply IsS111.drew | apply IsS111.set_1) | exact HI0.out))) : gb345 ≠ g)); clear HI0; clear HK; clear HB; have HI0 := n0_; have HK := n1_; have HB := n2_; have BK345 := n3_; have GW345 := n4_; have GE345 := n5_; have NB0_345 := n6_; have NB345_0 := n7_; clear n0_ n1_ n2_ n3_ n4_ n5_ n6_ n7_; clear hb hbox hg) | ((with_reducible refine gate_dst (N := 5) rfl ?_); refine box_event ?hg (N := 5) ?hd (cs := #[.int .i64 0, .int .i64 0, .string (⟨#[]⟩ : ByteArray)]) (t := 83) ?hr ?_; (case hd => rfl); (case hg => rfl); (case hr => first | (go_simp; done) | (go_simp; rfl)); intro gb346 hg w6 hbox hb; have n0_ := zM (IsS111.below (by repeat (first | (with_reducible first | exact HI0.out | apply IsS111.alloc | apply IsS111.drewN | apply IsS111.drew | apply IsS111.set_1 | refine IsS111.far ?_ NB0_345.out _) | exact HI0.out)) hb); have n1_ := zM (zJ (g := gb345) (o := .cells #[.int .i64 0, .int .i64 0, .string (⟨#[]⟩ : ByteArray)] 83 (0, 0)) (by (with_reducible repeat (first | refine zX ?_ _ | refine zY ?_ | refine zZ ?_ _)); exact BK345.out) hb); have n2_ := zM (KeepBut.trans (by repeat (first | (with_reducible first | exact HK.out | apply KeepBut.set_ | apply keep_drewN | apply keep_drew | apply keep_alloc | refine keep_far ?_ GW345.out _) | exact HK.out)) (KeepBut.of_below hb g none) (.inl rfl)); have n3_ := zM (zG (by repeat (first | (with_reducible first | exact HB.out | apply zU | apply zV | apply zW | refine zH ?_ (IsS111.ge HI0.out) | refine zH ?_ GE345.out) | exact HB.out)) hb); have n4_ := zM (hbox); have n5_ := zM ((by rw [hg]; exact (keep_size (w := w) (g := g) (row := none) (by repeat (first | (with_reducible first | exact HK.out | apply KeepBut.set_ | apply keep_drewN | apply keep_drew | apply keep_alloc | refine keep_far ?_ GW345.out _) | exact HK.out))) : w.heap.size ≤ gb346)); have n6_ := zM ((Nat.le_trans HW0.out (by rw [hg]; exact (keep_size (w := w) (g := g) (row := none) (by repeat (first | (with_reducible first | exact HK.out | apply KeepBut.set_ | apply keep_drewN | apply keep_drew | apply keep_alloc | refine keep_far ?_ GW345.out _) | exact HK.out))) : w.heap.size ≤ gb346) : w0.heap.size ≤ gb346)); have n7_ := zM ((by rw [hg]; exact Nat.ne_of_lt (blk_lt (g := gb345) (o := .cells #[.int .i64 0, .int .i64 0, .string (⟨#[]⟩ : ByteArray)] 83 (0, 0)) (by (with_reducible repeat (first | refine zX ?_ _ | refine zY ?_ | refine zZ ?_ _)); exact BK345.out)) : gb345 ≠ gb346)); have n8_ := zM ((by rw [hg]; exact Nat.ne_of_gt (blk_lt (g := gb345) (o := .cells #[.int .i64 0, .int .i64 0, .string (⟨#[]⟩ : ByteArray)] 83 (0, 0)) (by (with_reducible repeat (first | refine zX ?_ _ | refine zY ?_ | refine zZ ?_ _)); exact BK345.out)) : gb346 ≠ gb345)); have n9_ := zM ((by rw [hg]; exact Nat.ne_of_lt (IsS111.lt (show IsS111 w0 _ g s0_0 s0_1 from by repeat (first | (with_reducible first | exact HI0.out | apply IsS111.alloc | apply IsS111.drewN | apply IsS111.drew | apply IsS111.set_1 | refine IsS111.far ?_ NB0_345.out _) | exact HI0.out))) : g ≠ gb346)); have n10_ := zM ((by rw [hg]; exact Nat.ne_of_gt (IsS111.lt (show IsS111 w0 _ g s0_0 s0_1 from by repeat (first | (with_reducible first | exact HI0.out | apply IsS111.alloc | apply IsS111.drewN | apply IsS111.drew | apply IsS111.set_1 | refine IsS111.far ?_ NB0_345.out _) | exact HI0.out))) : gb346 ≠ g)); clear HI0; clear BK345; clear HK; clear HB; have HI0 := n0_; have BK345 := n1_; have HK := n2_; have HB := n3_; have BK346 := n4_; have GW346 := n5_; have GE346 := n6_; have NB345_346 := n7_; have NB346_345 := n8_; have NB0_346 := n9_; have NB346_0 := n10_; clear n0_ n1_ n2_ n3_ n4_ n5_ n6_ n7_ n8_ n9_ n10_; clear hb hbox hg; have hnb7 := NB346_345.out; have hnc7 := NB345_346.out; have hnb8 := NB346_0.out; have hnc8 := NB0_346.out; have hcz9_0 : w6.cell? ⟨gb346, 0, none⟩ = some (.int .i64 0) := (zK BK346.out 0).trans rfl; have hcz9_1 : w6.cell? ⟨gb346, 1, none⟩ = some (.int .i64 0) := (zK BK346.out 1).trans rfl; have hcz9_2 : w6.cell? ⟨gb346, 2, none⟩ = some (.string (⟨#[]⟩ : ByteArray)) := (zK BK346.out 2).trans rfl; have hfz9_0 := zF BK346.out 0; have hfz9_1 := zF BK346.out 1; have hfz9_2 := zF BK346.out 2) | ((with_reducible refine gate_callee (f := 70) rfl ?_); refine goesL_ (some 9) rfl rfl Try.func70 (by kernel_rfl) rfl #[.pointer (some ⟨g, 0, none⟩), .int .i64 7] rfl (by (try simp only [List.map_toArray, List.map_cons, List.map_nil]); first | done | rfl | (simp only [List.length_drop, List.length_take]; rfl)) ?_; (with_reducible refine (spec_l20Rd_pick.calls k g s0_0 s0_1 7 t347 t348 w0 _ ?side1 ?side2 A3.out).mono ?_); (case side1 => repeat (first | (with_reducible first | exact HI0.out | apply IsS111.alloc | apply IsS111.drewN | apply IsS111.drew | apply IsS111.set_1 | refine IsS111.far ?_ NB0_345.out _ | refine IsS111.far ?_ NB0_346.out _) | exact HI0.out)); (case side2 => repeat (first | (with_reducible first | exact HB.out | apply zU | apply zV | apply zW | refine zH ?_ (IsS111.ge HI0.out) | refine zH ?_ GE345.out | refine zH ?_ GE346.out) | exact HB.out)); rintro e w10 ⟨rfl, hi, hb, hk⟩; refine ⟨_, rfl, ?_⟩; have n0_ := zM (KeepBut.blk hk (g' := gb345) (o := .cells #[.int .i64 0, .int .i64 0, .string (⟨#[]⟩ : ByteArray)] 83 (0, 0)) (by (with_reducible repeat (first | refine zX ?_ _ | refine zY ?_ | refine zZ ?_ _)); refine blk_far ?_ NB345_346.out _; (with_reducible repeat (first | refine zX ?_ _ | refine zY ?_ | refine zZ ?_ _)); refine blk_far ?_ NB345_346.out _; (with_reducible repeat (first | refine zX ?_ _ | refine zY ?_ | refine zZ ?_ _)); refine blk_far ?_ NB345_346.out _; (with_reducible repeat (first | refine zX ?_ _ | refine zY ?_ | refine zZ ?_ _)); exact BK345.out) NB345_0.out (by simp)); have n1_ := zM (KeepBut.blk hk (g' := gb346) (o := .cells #[.int .i64 0, .int .i64 0, .string (⟨#[]⟩ : ByteArray)] 83 (0, 0)) (by (with_reducible repeat (first | refine zX ?_ _ | refine zY ?_ | refine zZ ?_ _)); refine blk_put (cs := #[.int .i64 0, .int .i64 0, .string (⟨#[]⟩ : ByteArray)]) ?_ 2 _ rfl; (with_reducible repeat (first | refine zX ?_ _ | refine zY ?_ | refine zZ ?_ _)); refine blk_put (cs := #[.int .i64 0, .int .i64 0, .string (⟨#[]⟩ : ByteArray)]) ?_ 1 _ rfl; (with_reducible repeat (first | refine zX ?_ _ | refine zY ?_ | refine zZ ?_ _)); refine blk_put (cs := #[.int .i64 0, .int .i64 0, .string (⟨#[]⟩ : ByteArray)]) ?_ 0 _ rfl; (with_reducible repeat (first | refine zX ?_ _ | refine zY ?_ | refine zZ ?_ _)); exact BK346.out) NB346_0.out (by simp)); have n2_ := zM (KeepBut.trans (by repeat (first | (with_reducible first | exact HK.out | apply KeepBut.set_ | apply keep_drewN | apply keep_drew | apply keep_alloc | refine keep_far ?_ GW345.out _ | refine keep_far ?_ GW346.out _) | exact HK.out)) hk (.inl rfl)); have n3_ := zM (hb); have n4_ := zM (hi); clear BK345; clear BK346; clear HK; clear HB; clear HI0; have BK345 := n0_; have BK346 := n1_; have HK := n2_; have HB := n3_; have HI0 := n4_; clear n0_ n1_ n2_ n3_ n4_; (try clear hb); (try clear hb2); (try clear hk); (try clear hi)))
 (try simp only [Act.put, zA, zB, zC])
 go_cut [] (fun wc => ∃ (kq : Nat) (x1001_3 : Int) (x347000_3 : Int) (x347001_3 : Int) (x347002_3 : ByteArray), Aside0 (spec_l20Value.j3 kq a1 s0_0 x1001_3 x347000_3 x347001_3 x347002_3 = some (r1, r2, r3, r4)) ∧ Aside0 (kq ≤ k) ∧ Aside0 (wc.heap[gb345]? = some (.cells #[.int .i64 0, .int .i64 0, .string (⟨#[]⟩ : ByteArray)] 83 (0, 0))) ∧ Aside0 (wc.heap[gb346]? = some (.cells #[.int .i64 x347000_3, .int .i64 x347001_3, .string x347002_3] 83 (0, 0))) ∧ Aside0 (IsS111 w0 wc g s0_0 x1001_3) ∧ Aside0 (KeepBut w wc g none) ∧ Aside0 (Below w0.heap.size w0 wc))
 case first =>
  have H := HC4.out
  clear HC4
  by_cases c11 : t347 = 0
  ·
   rw [if_pos c11] at H
   have c11b0 : (t347 == 0) = true := beq_iff_eq.mpr c11
   have c11b1 : (t347 != 0) = false := bne_eq_false_iff_eq.mpr c11
   clear c11
   (first | rw [c11b0] | (simp only [i64_w, i32_w]; rw [c11b0]) | skip)
   have H' := zM H
   clear H
   go_wp2
   go_meet
   case rel => exact ⟨_, (t348), (0), (0), ((⟨#[]⟩ : ByteArray)), H', ⟨by first | omega | exact Nat.le_refl _⟩, ⟨by (with_reducible repeat (first | refine zX ?_ _ | refine zY ?_ | refine zZ ?_ _)); exact BK345.out⟩, ⟨by (with_reducible repeat (first | refine zX ?_ _ | refine zY ?_ | refine zZ ?_ _)); exact BK346.out⟩, ⟨by repeat (first | (with_reducible first | exact HI0.out | apply IsS111.alloc | apply IsS111.drewN | apply IsS111.drew | apply IsS111.set_1 | refine IsS111.far ?_ NB0_345.out _ | refine IsS111.far ?_ NB0_346.out _) | exact HI0.out)⟩, ⟨by repeat (first | (with_reducible first | exact HK.out | apply KeepBut.set_ | apply keep_drewN | apply keep_drew | apply keep_alloc | refine keep_far ?_ GW345.out _ | refine keep_far ?_ GW346.out _) | exact HK.out)⟩, ⟨by repeat (first | (with_reducible first | exact HB.out | apply zU | apply zV | apply zW | refine zH ?_ (IsS111.ge HI0.out) | refine zH ?_ GE345.out | refine zH ?_ GE346.out) | exact HB.out)⟩⟩
  ·
   rw [if_neg c11] at H
   have c11b0 : (t347 == 0) = false := beq_eq_false_iff_ne.mpr c11
   have c11b1 : (t347 != 0) = true := bne_iff_ne.mpr c11
   (first | rw [c11b0] | (simp only [i64_w, i32_w]; rw [c11b0]) | skip)
   have HC12 := zM H
   clear H
   go_upto_if 15 with (fail)
   go_cut [15] (fun v15 wc => ∃ (kq : Nat) (x15_11 : Bool), v15 = .bool x15_11 ∧ Aside0 (spec_l20Value.j0 kq a1 t347 x15_11 s0_0 t348 = some (r1, r2, r3, r4)) ∧ Aside0 (kq ≤ k) ∧ Aside0 (wc.heap[gb345]? = some (.cells #[.int .i64 0, .int .i64 0, .string (⟨#[]⟩ : ByteArray)] 83 (0, 0))) ∧ Aside0 (wc.heap[gb346]? = some (.cells #[.int .i64 0, .int .i64 0, .string (⟨#[]⟩ : ByteArray)] 83 (0, 0))) ∧ Aside0 (IsS111 w0 wc g s0_0 t348) ∧ Aside0 (KeepBut w wc g none) ∧ Aside0 (Below w0.heap.size w0 wc))
   case first =>
    have H := HC12.out
    clear HC12
    by_cases c13 : t347 = 1
    ·
     rw [if_pos c13] at H
     have c13b0 : (t347 == 1) = true := beq_iff_eq.mpr c13
     have c13b1 : (t347 != 1) = false := bne_eq_false_iff_eq.mpr c13
     clear c13
     (first | rw [c13b0] | (simp only [i64_w, i32_w]; rw [c13b0]) | skip)
     have H' := zM H
     clear H
     go_wp2
     go_meet
     case rel => exact ⟨_, ((t347 == 1)), (by first | rfl | (simp; done) | (simp [*]; done)), H', ⟨by first | omega | exact Nat.le_refl _⟩, ⟨by (with_reducible repeat (first | refine zX ?_ _ | refine zY ?_ | refine zZ ?_ _)); exact BK345.out⟩, ⟨by (with_reducible repeat (first | refine zX ?_ _ | refine zY ?_ | refine zZ ?_ _)); exact BK346.out⟩, ⟨by repeat (first | (with_reducible first | exact HI0.out | apply IsS111.alloc | apply IsS111.drewN | apply IsS111.drew | apply IsS111.set_1 | refine IsS111.far ?_ NB0_345.out _ | refine IsS111.far ?_ NB0_346.out _) | exact HI0.out)⟩, ⟨by repeat (first | (with_reducible first | exact HK.out | apply KeepBut.set_ | apply keep_drewN | apply keep_drew | apply keep_alloc | refine keep_far ?_ GW345.out _ | refine keep_far ?_ GW346.out _) | exact HK.out)⟩, ⟨by repeat (first | (with_reducible first | exact HB.out | apply zU | apply zV | apply zW | refine zH ?_ (IsS111.ge HI0.out) | refine zH ?_ GE345.out | refine zH ?_ GE346.out) | exact HB.out)⟩⟩
    ·
     rw [if_neg c13] at H
     have c13b0 : (t347 == 1) = false := beq_eq_false_iff_ne.mpr c13
     have c13b1 : (t347 != 1) = true := bne_iff_ne.mpr c13
     (first | rw [c13b0] | (simp only [i64_w, i32_w]; rw [c13b0]) | skip)
     by_cases c14 : t347 = 2
     ·
      rw [if_pos c14] at H
      have c14b0 : (t347 == 2) = true := beq_iff_eq.mpr c14
      have c14b1 : (t347 != 2) = false := bne_eq_false_iff_eq.mpr c14
      clear c14
      have H' := zM H
      clear H
      go_wp2
      go_meet
      case rel => exact ⟨_, ((t347 == 2)), (by first | rfl | (simp; done) | (simp [*]; done)), H', ⟨by first | omega | exact Nat.le_refl _⟩, ⟨by (with_reducible repeat (first | refine zX ?_ _ | refine zY ?_ | refine zZ ?_ _)); exact BK345.out⟩, ⟨by (with_reducible repeat (first | refine zX ?_ _ | refine zY ?_ | refine zZ ?_ _)); exact BK346.out⟩, ⟨by repeat (first | (with_reducible first | exact HI0.out | apply IsS111.alloc | apply IsS111.drewN | apply IsS111.drew | apply IsS111.set_1 | refine IsS111.far ?_ NB0_345.out _ | refine IsS111.far ?_ NB0_346.out _) | exact HI0.out)⟩, ⟨by repeat (first | (with_reducible first | exact HK.out | apply KeepBut.set_ | apply keep_drewN | apply keep_drew | apply keep_alloc | refine keep_far ?_ GW345.out _ | refine keep_far ?_ GW346.out _) | exact HK.out)⟩, ⟨by repeat (first | (with_reducible first | exact HB.out | apply zU | apply zV | apply zW | refine zH ?_ (IsS111.ge HI0.out) | refine zH ?_ GE345.out | refine zH ?_ GE346.out) | exact HB.out)⟩⟩
     ·
      rw [if_neg c14] at H
      have c14b0 : (t347 == 2) = false := beq_eq_false_iff_ne.mpr c14
      have c14b1 : (t347 != 2) = true := bne_iff_ne.mpr c14
      have H' := zM H
      clear H
      go_wp2
      go_meet
      case rel => exact ⟨_, ((t347 == 3)), (by first | rfl | (simp; done) | (simp [*]; done)), H', ⟨by first | omega | exact Nat.le_refl _⟩, ⟨by (with_reducible repeat (first | refine zX ?_ _ | refine zY ?_ | refine zZ ?_ _)); exact BK345.out⟩, ⟨by (with_reducible repeat (first | refine zX ?_ _ | refine zY ?_ | refine zZ ?_ _)); exact BK346.out⟩, ⟨by repeat (first | (with_reducible first | exact HI0.out | apply IsS111.alloc | apply IsS111.drewN | apply IsS111.drew | apply IsS111.set_1 | refine IsS111.far ?_ NB0_345.out _ | refine IsS111.far ?_ NB0_346.out _) | exact HI0.out)⟩, ⟨by repeat (first | (with_reducible first | exact HK.out | apply KeepBut.set_ | apply keep_drewN | apply keep_drew | apply keep_alloc | refine keep_far ?_ GW345.out _ | refine keep_far ?_ GW346.out _) | exact HK.out)⟩, ⟨by repeat (first | (with_reducible first | exact HB.out | apply zU | apply zV | apply zW | refine zH ?_ (IsS111.ge HI0.out) | refine zH ?_ GE345.out | refine zH ?_ GE346.out) | exact HB.out)⟩⟩
   case rest =>
    clear HC12
    try clear c1
    try clear p2
    try clear c7
    try clear c8
    try clear c9
    try clear c11
    try clear c11b0
    try clear c11b1
    try clear c13
    try clear c13b0
    try clear c13b1
    try clear c14
    try clear c14b0
    try clear c14b1
    try clear hcz9_0
    try clear hcz9_1
    try clear hcz9_2
    try clear hfz9_0
    try clear hfz9_1
    try clear hfz9_2
    obtain ⟨kq, x15_11, rfl, HA, HJ11, BK345, BK346, HI0, HK, HB⟩ := hcut
    cases kq with
    | zero => exact absurd HA.out (by simp [spec_l20Value.j0])
    | succ kj11 =>
     have H := HA.out
     clear HA
     simp only [spec_l20Value.j0] at H
     by_cases c15 : x15_11 = true
     ·
      subst c15
      have H1 : ((spec_l20Rd_pick.f kj11 s0_0 t348 7).bind fun bt349 => ((spec_l20Rd_pick.f kj11 s0_0 bt349.2 8).bind fun bt351 => (if bt351.1 = 0 then ((some (([9999, (-9999), 255, 256, (-256)] : List Int) : List Int)).bind fun y353 => ((spec_l20Rd_pick.f kj11 s0_0 bt351.2 5).bind fun bt356 => (if 0 ≤ bt356.1 then (if bt356.1 < (y353.length : Int) then (spec_l20Value.j3 kj11 a1 s0_0 bt356.2 1 (rd y353 bt356.1) (⟨#[]⟩ : ByteArray)) else (none)) else (none)))) else (spec_l20Value.j3 kj11 a1 s0_0 bt351.2 1 (wrap64 (bt349.1 - 3)) (⟨#[]⟩ : ByteArray))))) = some (r1, r2, r3, r4) := by rw [if_pos rfl] at H; exact H
      clear H
      have H := H1
      clear H1
      replace H := Option.bind_eq_some_iff.mp H
      obtain ⟨⟨t349, t350⟩, A160, H⟩ := H
      replace H : ((spec_l20Rd_pick.f kj11 s0_0 t350 8).bind fun bt351 => (if bt351.1 = 0 then ((some (([9999, (-9999), 255, 256, (-256)] : List Int) : List Int)).bind fun y353 => ((spec_l20Rd_pick.f kj11 s0_0 bt351.2 5).bind fun bt356 => (if 0 ≤ bt356.1 then (if bt356.1 < (y353.length : Int) then (spec_l20Value.j3 kj11 a1 s0_0 bt356.2 1 (rd y353 bt356.1) (⟨#[]⟩ : ByteArray)) else (none)) else (none)))) else (spec_l20Value.j3 kj11 a1 s0_0 bt351.2 1 (wrap64 (t349 - 3)) (⟨#[]⟩ : ByteArray)))) = some (r1, r2, r3, r4) := H
      have A16 := zM A160
      clear A160
      replace H := Option.bind_eq_some_iff.mp H
      obtain ⟨⟨t351, t352⟩, A170, H⟩ := H
      replace H : (if t351 = 0 then ((some (([9999, (-9999), 255, 256, (-256)] : List Int) : List Int)).bind fun y353 => ((spec_l20Rd_pick.f kj11 s0_0 t352 5).bind fun bt356 => (if 0 ≤ bt356.1 then (if bt356.1 < (y353.length : Int) then (spec_l20Value.j3 kj11 a1 s0_0 bt356.2 1 (rd y353 bt356.1) (⟨#[]⟩ : ByteArray)) else (none)) else (none)))) else (spec_l20Value.j3 kj11 a1 s0_0 t352 1 (wrap64 (t349 - 3)) (⟨#[]⟩ : ByteArray))) = some (r1, r2, r3, r4) := H
      have A17 := zM A170
      clear A170
      by_cases c18 : t351 = 0
      ·
       rw [if_pos c18] at H
       have c18b0 : (t351 == 0) = true := beq_iff_eq.mpr c18
       have c18b1 : (t351 != 0) = false := bne_eq_false_iff_eq.mpr c18
       clear c18
       obtain ⟨y353, hy353⟩ : ∃ y_ : List Int, y_ = (([9999, (-9999), 255, 256, (-256)] : List Int)) := ⟨_, rfl⟩
       replace H : ((spec_l20Rd_pick.f kj11 s0_0 t352 5).bind fun bt356 => (if 0 ≤ bt356.1 then (if bt356.1 < (y353.length : Int) then (spec_l20Value.j3 kj11 a1 s0_0 bt356.2 1 (rd y353 bt356.1) (⟨#[]⟩ : ByteArray)) else (none)) else (none))) = some (r1, r2, r3, r4) := by first | (rw [hy353]; with_reducible exact H) | (have H2_ := (Option.bind_some _ _).symm.trans H; rw [hy353]; with_reducible exact H2_) | (have H2_ := (Option.bind_some _ _).symm.trans H; with_reducible exact H2_) | with_reducible exact H | (rw [hy353]; exact H) | exact H
       have Ny353 := zM hy353
       clear hy353
       replace H := Option.bind_eq_some_iff.mp H
       obtain ⟨⟨t356, t357⟩, A190, H⟩ := H
       replace H : (if 0 ≤ t356 then (if t356 < (y353.length : Int) then (spec_l20Value.j3 kj11 a1 s0_0 t357 1 (rd y353 t356) (⟨#[]⟩ : ByteArray)) else (none)) else (none)) = some (r1, r2, r3, r4) := H
       have A19 := zM A190
       clear A190
       by_cases c20 : 0 ≤ t356
       ·
        rw [if_pos c20] at H
        have c20b0 : decide (0 ≤ t356) = true := decide_eq_true c20
        clear c20
        by_cases c21 : t356 < (y353.length : Int)
        ·
         rw [if_pos c21] at H
         have c21b0 : decide (t356 < (y353.length : Int)) = true := decide_eq_true c21
         clear c21
         have H' := zM H
         clear H
         go_wp2_with (first | ((with_reducible refine gate_callee (f := 70) rfl ?_); refine goesL_ (some 20) rfl rfl Try.func70 (by kernel_rfl) rfl #[.pointer (some ⟨g, 0, none⟩), .int .i64 7] rfl (by (try simp only [List.map_toArray, List.map_cons, List.map_nil]); first | done | rfl | (simp only [List.length_drop, List.length_take]; rfl)) ?_; (with_reducible refine (spec_l20Rd_pick.calls kj11 g s0_0 t348 7 t349 t350 w0 _ ?side1 ?side2 A16.out).mono ?_); (case side1 => repeat (first | (with_reducible first | exact HI0.out | apply IsS111.alloc | apply IsS111.drewN | apply IsS111.drew | apply IsS111.set_1 | refine IsS111.far ?_ NB0_345.out _ | refine IsS111.far ?_ NB0_346.out _) | exact HI0.out)); (case side2 => repeat (first | (with_reducible first | exact HB.out | apply zU | apply zV | apply zW | refine zH ?_ (IsS111.ge HI0.out) | refine zH ?_ GE345.out | refine zH ?_ GE346.out) | exact HB.out)); rintro e w22 ⟨rfl, hi, hb, hk⟩; refine ⟨_, rfl, ?_⟩; have n0_ := zM (KeepBut.blk hk (g' := gb345) (o := .cells #[.int .i64 0, .int .i64 0, .string (⟨#[]⟩ : ByteArray)] 83 (0, 0)) (by (with_reducible repeat (first | refine zX ?_ _ | refine zY ?_ | refine zZ ?_ _)); exact BK345.out) NB345_0.out (by simp)); have n1_ := zM (KeepBut.blk hk (g' := gb346) (o := .cells #[.int .i64 0, .int .i64 0, .string (⟨#[]⟩ : ByteArray)] 83 (0, 0)) (by (with_reducible repeat (first | refine zX ?_ _ | refine zY ?_ | refine zZ ?_ _)); exact BK346.out) NB346_0.out (by simp)); have n2_ := zM (KeepBut.trans (by repeat (first | (with_reducible first | exact HK.out | apply KeepBut.set_ | apply keep_drewN | apply keep_drew | apply keep_alloc | refine keep_far ?_ GW345.out _ | refine keep_far ?_ GW346.out _) | exact HK.out)) hk (.inl rfl)); have n3_ := zM (hb); have n4_ := zM (hi); clear BK345; clear BK346; clear HK; clear HB; clear HI0; have BK345 := n0_; have BK346 := n1_; have HK := n2_; have HB := n3_; have HI0 := n4_; clear n0_ n1_ n2_ n3_ n4_; (try clear hb); (try clear hb2); (try clear hk); (try clear hi); have hnb23 := NB346_345.out; have hnc23 := NB345_346.out; have hnb24 := NB346_0.out; have hnc24 := NB0_346.out; have hcz25_0 : w22.cell? ⟨gb346, 0, none⟩ = some (.int .i64 0) := (zK BK346.out 0).trans rfl; have hcz25_1 : w22.cell? ⟨gb346, 1, none⟩ = some (.int .i64 0) := (zK BK346.out 1).trans rfl; have hcz25_2 : w22.cell? ⟨gb346, 2, none⟩ = some (.string (⟨#[]⟩ : ByteArray)) := (zK BK346.out 2).trans rfl; have hfz25_0 := zF BK346.out 0; have hfz25_1 := zF BK346.out 1; have hfz25_2 := zF BK346.out 2) | ((with_reducible refine gate_callee (f := 70) rfl ?_); refine goesL_ (some 24) rfl rfl Try.func70 (by kernel_rfl) rfl #[.pointer (some ⟨g, 0, none⟩), .int .i64 8] rfl (by (try simp only [List.map_toArray, List.map_cons, List.map_nil]); first | done | rfl | (simp only [List.length_drop, List.length_take]; rfl)) ?_; (with_reducible refine (spec_l20Rd_pick.calls kj11 g s0_0 t350 8 t351 t352 w0 _ ?side1 ?side2 A17.out).mono ?_); (case side1 => repeat (first | (with_reducible first | exact HI0.out | apply IsS111.alloc | apply IsS111.drewN | apply IsS111.drew | apply IsS111.set_1 | refine IsS111.far ?_ NB0_345.out _ | refine IsS111.far ?_ NB0_346.out _) | exact HI0.out)); (case side2 => repeat (first | (with_reducible first | exact HB.out | apply zU | apply zV | apply zW | refine zH ?_ (IsS111.ge HI0.out) | refine zH ?_ GE345.out | refine zH ?_ GE346.out) | exact HB.out)); rintro e w26 ⟨rfl, hi, hb, hk⟩; refine ⟨_, rfl, ?_⟩; have n0_ := zM (KeepBut.blk hk (g' := gb345) (o := .cells #[.int .i64 0, .int .i64 0, .string (⟨#[]⟩ : ByteArray)] 83 (0, 0)) (by (with_reducible repeat (first | refine zX ?_ _ | refine zY ?_ | refine zZ ?_ _)); refine blk_far ?_ NB345_346.out _; (with_reducible repeat (first | refine zX ?_ _ | refine zY ?_ | refine zZ ?_ _)); refine blk_far ?_ NB345_346.out _; (with_reducible repeat (first | refine zX ?_ _ | refine zY ?_ | refine zZ ?_ _)); refine blk_far ?_ NB345_346.out _; (with_reducible repeat (first | refine zX ?_ _ | refine zY ?_ | refine zZ ?_ _)); exact BK345.out) NB345_0.out (by simp)); have n1_ := zM (KeepBut.blk hk (g' := gb346) (o := .cells #[.int .i64 1, .int .i64 (wrap64 (t349 - 3)), .string (⟨#[]⟩ : ByteArray)] 83 (0, 0)) (by (with_reducible repeat (first | refine zX ?_ _ | refine zY ?_ | refine zZ ?_ _)); refine blk_put (cs := #[.int .i64 1, .int .i64 (wrap64 (t349 - 3)), .string (⟨#[]⟩ : ByteArray)]) ?_ 2 _ rfl; (with_reducible repeat (first | refine zX ?_ _ | refine zY ?_ | refine zZ ?_ _)); refine blk_put (cs := #[.int .i64 1, .int .i64 0, .string (⟨#[]⟩ : ByteArray)]) ?_ 1 _ rfl; (with_reducible repeat (first | refine zX ?_ _ | refine zY ?_ | refine zZ ?_ _)); refine blk_put (cs := #[.int .i64 0, .int .i64 0, .string (⟨#[]⟩ : ByteArray)]) ?_ 0 _ rfl; (with_reducible repeat (first | refine zX ?_ _ | refine zY ?_ | refine zZ ?_ _)); exact BK346.out) NB346_0.out (by simp)); have n2_ := zM (KeepBut.trans (by repeat (first | (with_reducible first | exact HK.out | apply KeepBut.set_ | apply keep_drewN | apply keep_drew | apply keep_alloc | refine keep_far ?_ GW345.out _ | refine keep_far ?_ GW346.out _) | exact HK.out)) hk (.inl rfl)); have n3_ := zM (hb); have n4_ := zM (hi); clear BK345; clear BK346; clear HK; clear HB; clear HI0; have BK345 := n0_; have BK346 := n1_; have HK := n2_; have HB := n3_; have HI0 := n4_; clear n0_ n1_ n2_ n3_ n4_; (try clear hb); (try clear hb2); (try clear hk); (try clear hi)) | ((with_reducible refine gate_dst (N := 26) rfl ?_); refine Kd.R_lit (Kd.int .i64) _ 3 ?hg (N := 26) ?hd (xs := ([9999, (-9999), 255, 256, (-256)] : List Int)) (inner := [.int .i64 9999, .int .i64 (-9999), .int .i64 255, .int .i64 256, .int .i64 (-256)]) (ok := fun _ => True) (okp := fun _ => True) ?hr ?hp (fun _ hk => hk) trivial (Below.refl _ _) (Nat.le_refl _) (by simp) ?_; (case hd => rfl); (case hg => rfl); (case hr => first | (go_simp; done) | (go_simp; rfl)); (case hp => exact (Reps.one (show Kd.M (Kd.int .i64) _ _ _ 9999 [.int .i64 9999] from rfl) (Reps.one (show Kd.M (Kd.int .i64) _ _ _ (-9999) [.int .i64 (-9999)] from rfl) (Reps.one (show Kd.M (Kd.int .i64) _ _ _ 255 [.int .i64 255] from rfl) (Reps.one (show Kd.M (Kd.int .i64) _ _ _ 256 [.int .i64 256] from rfl) (Reps.one (show Kd.M (Kd.int .i64) _ _ _ (-256) [.int .i64 (-256)] from rfl) (Reps.none _ _))))))); intro v354 w27 ho28 hb hg_ hnew_; clear hg_ hnew_; (first | rw [← Ny353.out] at ho28 | (simp only [Int.reduceToNat] at ho28; rw [← Ny353.out] at ho28)); have n0_ := zM (Kd.R_lower ho28 (keep_size (w := w) (g := g) (row := none) (by repeat (first | (with_reducible first | exact HK.out | apply KeepBut.set_ | apply keep_drewN | apply keep_drew | apply keep_alloc | refine keep_far ?_ GW345.out _ | refine keep_far ?_ GW346.out _) | exact HK.out)))); have n1_ := zM (zJ (g := gb345) (o := .cells #[.int .i64 0, .int .i64 0, .string (⟨#[]⟩ : ByteArray)] 83 (0, 0)) (by (with_reducible repeat (first | refine zX ?_ _ | refine zY ?_ | refine zZ ?_ _)); exact BK345.out) hb); have n2_ := zM (zJ (g := gb346) (o := .cells #[.int .i64 1, .int .i64 (wrap64 (t349 - 3)), .string (⟨#[]⟩ : ByteArray)] 83 (0, 0)) (by (with_reducible repeat (first | refine zX ?_ _ | refine zY ?_ | refine zZ ?_ _)); exact BK346.out) hb); have n3_ := zM (IsS111.below (by repeat (first | (with_reducible first | exact HI0.out | apply IsS111.alloc | apply IsS111.drewN | apply IsS111.drew | apply IsS111.set_1 | refine IsS111.far ?_ NB0_345.out _ | refine IsS111.far ?_ NB0_346.out _) | exact HI0.out)) hb); have n4_ := zM (KeepBut.trans (by repeat (first | (with_reducible first | exact HK.out | apply KeepBut.set_ | apply keep_drewN | apply keep_drew | apply keep_alloc | refine keep_far ?_ GW345.out _ | refine keep_far ?_ GW346.out _) | exact HK.out)) (KeepBut.of_below hb g none) (.inl rfl)); have n5_ := zM (zG (by repeat (first | (with_reducible first | exact HB.out | apply zU | apply zV | apply zW | refine zH ?_ (IsS111.ge HI0.out) | refine zH ?_ GE345.out | refine zH ?_ GE346.out) | exact HB.out)) hb); clear BK345; clear BK346; clear HI0; clear HK; clear HB; have HO355 := n0_; have BK345 := n1_; have BK346 := n2_; have HI0 := n3_; have HK := n4_; have HB := n5_; clear n0_ n1_ n2_ n3_ n4_ n5_; clear hb ho28) | ((with_reducible refine gate_callee (f := 70) rfl ?_); refine goesL_ (some 28) rfl rfl Try.func70 (by kernel_rfl) rfl #[.pointer (some ⟨g, 0, none⟩), .int .i64 5] rfl (by (try simp only [List.map_toArray, List.map_cons, List.map_nil]); first | done | rfl | (simp only [List.length_drop, List.length_take]; rfl)) ?_; (with_reducible refine (spec_l20Rd_pick.calls kj11 g s0_0 t352 5 t356 t357 w0 _ ?side1 ?side2 A19.out).mono ?_); (case side1 => repeat (first | (with_reducible first | exact HI0.out | apply IsS111.alloc | apply IsS111.drewN | apply IsS111.drew | apply IsS111.set_1 | refine IsS111.far ?_ NB0_345.out _ | refine IsS111.far ?_ NB0_346.out _) | exact HI0.out)); (case side2 => repeat (first | (with_reducible first | exact HB.out | apply zU | apply zV | apply zW | refine zH ?_ (IsS111.ge HI0.out) | refine zH ?_ GE345.out | refine zH ?_ GE346.out) | exact HB.out)); rintro e w29 ⟨rfl, hi, hb, hk⟩; refine ⟨_, rfl, ?_⟩; have n0_ := zM (KeepBut.blk hk (g' := gb345) (o := .cells #[.int .i64 0, .int .i64 0, .string (⟨#[]⟩ : ByteArray)] 83 (0, 0)) (by (with_reducible repeat (first | refine zX ?_ _ | refine zY ?_ | refine zZ ?_ _)); exact BK345.out) NB345_0.out (by simp)); have n1_ := zM (KeepBut.blk hk (g' := gb346) (o := .cells #[.int .i64 1, .int .i64 (wrap64 (t349 - 3)), .string (⟨#[]⟩ : ByteArray)] 83 (0, 0)) (by (with_reducible repeat (first | refine zX ?_ _ | refine zY ?_ | refine zZ ?_ _)); exact BK346.out) NB346_0.out (by simp)); have n2_ := zM (Kd.R_mono (Kd.R_keep (IsS111.apart (show IsS111 w0 _ g s0_0 t352 from by repeat (first | (with_reducible first | exact HI0.out | apply IsS111.alloc | apply IsS111.drewN | apply IsS111.drew | apply IsS111.set_1 | refine IsS111.far ?_ NB0_345.out _ | refine IsS111.far ?_ NB0_346.out _) | exact HI0.out)) (by (with_reducible repeat (first | apply zR | apply zS | apply zT)); exact HO355.out) (by decide)) hk (fun _ h => h.2)) (fun _ h => h.1)); have n3_ := zM (KeepBut.trans (by repeat (first | (with_reducible first | exact HK.out | apply KeepBut.set_ | apply keep_drewN | apply keep_drew | apply keep_alloc | refine keep_far ?_ GW345.out _ | refine keep_far ?_ GW346.out _) | exact HK.out)) hk (.inl rfl)); have n4_ := zM (hb); have n5_ := zM (hi); clear BK345; clear BK346; clear HO355; clear HK; clear HB; clear HI0; have BK345 := n0_; have BK346 := n1_; have HO355 := n2_; have HK := n3_; have HB := n4_; have HI0 := n5_; clear n0_ n1_ n2_ n3_ n4_ n5_; (try clear hb); (try clear hb2); (try clear hk); (try clear hi); obtain ⟨Ao30, co30, eo30⟩ := Kd.R_slice HO355.out; subst eo30; have p358 : 0 ≤ (t356 : Int) := zL (by assumption); have q358 : t356 < (y353.length : Int) := zL (by assumption); obtain ⟨ad358, e358, hx358_0⟩ := Kd.at_int (Kd.R_reads' HO355.out).2.2 t356 p358 q358; cases e358; replace p358 := eq_true p358; replace q358 := eq_true q358; have hcz31_0 : w29.cell? ⟨gb346, 0, none⟩ = some (.int .i64 1) := (zK BK346.out 0).trans rfl; have hcz31_1 : w29.cell? ⟨gb346, 1, none⟩ = some (.int .i64 (wrap64 (t349 - 3))) := (zK BK346.out 1).trans rfl; have hcz31_2 : w29.cell? ⟨gb346, 2, none⟩ = some (.string (⟨#[]⟩ : ByteArray)) := (zK BK346.out 2).trans rfl; have hfz31_0 := zF BK346.out 0; have hfz31_1 := zF BK346.out 1; have hfz31_2 := zF BK346.out 2))
         go_meet
         case rel => exact ⟨_, (t357), (1), (rd y353 t356), ((⟨#[]⟩ : ByteArray)), H', ⟨by have := HJ11.out; first | omega | exact Nat.le_refl _⟩, ⟨by (with_reducible repeat (first | refine zX ?_ _ | refine zY ?_ | refine zZ ?_ _)); refine blk_far ?_ NB345_346.out _; (with_reducible repeat (first | refine zX ?_ _ | refine zY ?_ | refine zZ ?_ _)); exact BK345.out⟩, ⟨by (with_reducible repeat (first | refine zX ?_ _ | refine zY ?_ | refine zZ ?_ _)); refine blk_put (cs := #[.int .i64 1, .int .i64 (wrap64 (t349 - 3)), .string (⟨#[]⟩ : ByteArray)]) ?_ 1 _ rfl; (with_reducible repeat (first | refine zX ?_ _ | refine zY ?_ | refine zZ ?_ _)); exact BK346.out⟩, ⟨by repeat (first | (with_reducible first | exact HI0.out | apply IsS111.alloc | apply IsS111.drewN | apply IsS111.drew | apply IsS111.set_1 | refine IsS111.far ?_ NB0_345.out _ | refine IsS111.far ?_ NB0_346.out _) | exact HI0.out)⟩, ⟨by repeat (first | (with_reducible first | exact HK.out | apply KeepBut.set_ | apply keep_drewN | apply keep_drew | apply keep_alloc | refine keep_far ?_ GW345.out _ | refine keep_far ?_ GW346.out _) | exact HK.out)⟩, ⟨by repeat (first | (with_reducible first | exact HB.out | apply zU | apply zV | apply zW | refine zH ?_ (IsS111.ge HI0.out) | refine zH ?_ GE345.out | refine zH ?_ GE346.out) | exact HB.out)⟩⟩
        ·
         rw [if_neg c21] at H
         exact absurd H (by simp)
       ·
        rw [if_neg c20] at H
        exact absurd H (by simp)
      ·
       rw [if_neg c18] at H
       have c18b0 : (t351 == 0) = false := beq_eq_false_iff_ne.mpr c18
       have c18b1 : (t351 != 0) = true := bne_iff_ne.mpr c18
       have H' := zM H
       clear H
       go_wp2_with (first | ((with_reducible refine gate_callee (f := 70) rfl ?_); refine goesL_ (some 20) rfl rfl Try.func70 (by kernel_rfl) rfl #[.pointer (some ⟨g, 0, none⟩), .int .i64 7] rfl (by (try simp only [List.map_toArray, List.map_cons, List.map_nil]); first | done | rfl | (simp only [List.length_drop, List.length_take]; rfl)) ?_; (with_reducible refine (spec_l20Rd_pick.calls kj11 g s0_0 t348 7 t349 t350 w0 _ ?side1 ?side2 A16.out).mono ?_); (case side1 => repeat (first | (with_reducible first | exact HI0.out | apply IsS111.alloc | apply IsS111.drewN | apply IsS111.drew | apply IsS111.set_1 | refine IsS111.far ?_ NB0_345.out _ | refine IsS111.far ?_ NB0_346.out _) | exact HI0.out)); (case side2 => repeat (first | (with_reducible first | exact HB.out | apply zU | apply zV | apply zW | refine zH ?_ (IsS111.ge HI0.out) | refine zH ?_ GE345.out | refine zH ?_ GE346.out) | exact HB.out)); rintro e w32 ⟨rfl, hi, hb, hk⟩; refine ⟨_, rfl, ?_⟩; have n0_ := zM (KeepBut.blk hk (g' := gb345) (o := .cells #[.int .i64 0, .int .i64 0, .string (⟨#[]⟩ : ByteArray)] 83 (0, 0)) (by (with_reducible repeat (first | refine zX ?_ _ | refine zY ?_ | refine zZ ?_ _)); exact BK345.out) NB345_0.out (by simp)); have n1_ := zM (KeepBut.blk hk (g' := gb346) (o := .cells #[.int .i64 0, .int .i64 0, .string (⟨#[]⟩ : ByteArray)] 83 (0, 0)) (by (with_reducible repeat (first | refine zX ?_ _ | refine zY ?_ | refine zZ ?_ _)); exact BK346.out) NB346_0.out (by simp)); have n2_ := zM (KeepBut.trans (by repeat (first | (with_reducible first | exact HK.out | apply KeepBut.set_ | apply keep_drewN | apply keep_drew | apply keep_alloc | refine keep_far ?_ GW345.out _ | refine keep_far ?_ GW346.out _) | exact HK.out)) hk (.inl rfl)); have n3_ := zM (hb); have n4_ := zM (hi); clear BK345; clear BK346; clear HK; clear HB; clear HI0; have BK345 := n0_; have BK346 := n1_; have HK := n2_; have HB := n3_; have HI0 := n4_; clear n0_ n1_ n2_ n3_ n4_; (try clear hb); (try clear hb2); (try clear hk); (try clear hi); have hnb33 := NB346_345.out; have hnc33 := NB345_346.out; have hnb34 := NB346_0.out; have hnc34 := NB0_346.out; have hcz35_0 : w32.cell? ⟨gb346, 0, none⟩ = some (.int .i64 0) := (zK BK346.out 0).trans rfl; have hcz35_1 : w32.cell? ⟨gb346, 1, none⟩ = some (.int .i64 0) := (zK BK346.out 1).trans rfl; have hcz35_2 : w32.cell? ⟨gb346, 2, none⟩ = some (.string (⟨#[]⟩ : ByteArray)) := (zK BK346.out 2).trans rfl; have hfz35_0 := zF BK346.out 0; have hfz35_1 := zF BK346.out 1; have hfz35_2 := zF BK346.out 2) | ((with_reducible refine gate_callee (f := 70) rfl ?_); refine goesL_ (some 24) rfl rfl Try.func70 (by kernel_rfl) rfl #[.pointer (some ⟨g, 0, none⟩), .int .i64 8] rfl (by (try simp only [List.map_toArray, List.map_cons, List.map_nil]); first | done | rfl | (simp only [List.length_drop, List.length_take]; rfl)) ?_; (with_reducible refine (spec_l20Rd_pick.calls kj11 g s0_0 t350 8 t351 t352 w0 _ ?side1 ?side2 A17.out).mono ?_); (case side1 => repeat (first | (with_reducible first | exact HI0.out | apply IsS111.alloc | apply IsS111.drewN | apply IsS111.drew | apply IsS111.set_1 | refine IsS111.far ?_ NB0_345.out _ | refine IsS111.far ?_ NB0_346.out _) | exact HI0.out)); (case side2 => repeat (first | (with_reducible first | exact HB.out | apply zU | apply zV | apply zW | refine zH ?_ (IsS111.ge HI0.out) | refine zH ?_ GE345.out | refine zH ?_ GE346.out) | exact HB.out)); rintro e w36 ⟨rfl, hi, hb, hk⟩; refine ⟨_, rfl, ?_⟩; have n0_ := zM (KeepBut.blk hk (g' := gb345) (o := .cells #[.int .i64 0, .int .i64 0, .string (⟨#[]⟩ : ByteArray)] 83 (0, 0)) (by (with_reducible repeat (first | refine zX ?_ _ | refine zY ?_ | refine zZ ?_ _)); refine blk_far ?_ NB345_346.out _; (with_reducible repeat (first | refine zX ?_ _ | refine zY ?_ | refine zZ ?_ _)); refine blk_far ?_ NB345_346.out _; (with_reducible repeat (first | refine zX ?_ _ | refine zY ?_ | refine zZ ?_ _)); refine blk_far ?_ NB345_346.out _; (with_reducible repeat (first | refine zX ?_ _ | refine zY ?_ | refine zZ ?_ _)); exact BK345.out) NB345_0.out (by simp)); have n1_ := zM (KeepBut.blk hk (g' := gb346) (o := .cells #[.int .i64 1, .int .i64 (wrap64 (t349 - 3)), .string (⟨#[]⟩ : ByteArray)] 83 (0, 0)) (by (with_reducible repeat (first | refine zX ?_ _ | refine zY ?_ | refine zZ ?_ _)); refine blk_put (cs := #[.int .i64 1, .int .i64 (wrap64 (t349 - 3)), .string (⟨#[]⟩ : ByteArray)]) ?_ 2 _ rfl; (with_reducible repeat (first | refine zX ?_ _ | refine zY ?_ | refine zZ ?_ _)); refine blk_put (cs := #[.int .i64 1, .int .i64 0, .string (⟨#[]⟩ : ByteArray)]) ?_ 1 _ rfl; (with_reducible repeat (first | refine zX ?_ _ | refine zY ?_ | refine zZ ?_ _)); refine blk_put (cs := #[.int .i64 0, .int .i64 0, .string (⟨#[]⟩ : ByteArray)]) ?_ 0 _ rfl; (with_reducible repeat (first | refine zX ?_ _ | refine zY ?_ | refine zZ ?_ _)); exact BK346.out) NB346_0.out (by simp)); have n2_ := zM (KeepBut.trans (by repeat (first | (with_reducible first | exact HK.out | apply KeepBut.set_ | apply keep_drewN | apply keep_drew | apply keep_alloc | refine keep_far ?_ GW345.out _ | refine keep_far ?_ GW346.out _) | exact HK.out)) hk (.inl rfl)); have n3_ := zM (hb); have n4_ := zM (hi); clear BK345; clear BK346; clear HK; clear HB; clear HI0; have BK345 := n0_; have BK346 := n1_; have HK := n2_; have HB := n3_; have HI0 := n4_; clear n0_ n1_ n2_ n3_ n4_; (try clear hb); (try clear hb2); (try clear hk); (try clear hi)))
       go_meet
       case rel => exact ⟨_, (t352), (1), (wrap64 (t349 - 3)), ((⟨#[]⟩ : ByteArray)), H', ⟨by have := HJ11.out; first | omega | exact Nat.le_refl _⟩, ⟨by (with_reducible repeat (first | refine zX ?_ _ | refine zY ?_ | refine zZ ?_ _)); exact BK345.out⟩, ⟨by (with_reducible repeat (first | refine zX ?_ _ | refine zY ?_ | refine zZ ?_ _)); exact BK346.out⟩, ⟨by repeat (first | (with_reducible first | exact HI0.out | apply IsS111.alloc | apply IsS111.drewN | apply IsS111.drew | apply IsS111.set_1 | refine IsS111.far ?_ NB0_345.out _ | refine IsS111.far ?_ NB0_346.out _) | exact HI0.out)⟩, ⟨by repeat (first | (with_reducible first | exact HK.out | apply KeepBut.set_ | apply keep_drewN | apply keep_drew | apply keep_alloc | refine keep_far ?_ GW345.out _ | refine keep_far ?_ GW346.out _) | exact HK.out)⟩, ⟨by repeat (first | (with_reducible first | exact HB.out | apply zU | apply zV | apply zW | refine zH ?_ (IsS111.ge HI0.out) | refine zH ?_ GE345.out | refine zH ?_ GE346.out) | exact HB.out)⟩⟩
     ·
      replace c15 := Bool.eq_false_iff.mpr c15
      subst c15
      have H1 : (if t347 = 4 then (spec_l20Value.j1 kj11 a1 (t347 == 4) s0_0 t348) else (spec_l20Value.j1 kj11 a1 (t347 == 5) s0_0 t348)) = some (r1, r2, r3, r4) := by rw [if_neg (show ¬ (false = true) by decide)] at H; exact H
      clear H
      have H := H1
      clear H1
      have HC37 := zM H
      clear H
      go_upto_if 32 with (fail)
      go_cut [32] (fun v32 wc => ∃ (kq : Nat) (x32_36 : Bool), v32 = .bool x32_36 ∧ Aside0 (spec_l20Value.j1 kq a1 x32_36 s0_0 t348 = some (r1, r2, r3, r4)) ∧ Aside0 (kq ≤ kj11) ∧ Aside0 (wc.heap[gb345]? = some (.cells #[.int .i64 0, .int .i64 0, .string (⟨#[]⟩ : ByteArray)] 83 (0, 0))) ∧ Aside0 (wc.heap[gb346]? = some (.cells #[.int .i64 0, .int .i64 0, .string (⟨#[]⟩ : ByteArray)] 83 (0, 0))) ∧ Aside0 (IsS111 w0 wc g s0_0 t348) ∧ Aside0 (KeepBut w wc g none) ∧ Aside0 (Below w0.heap.size w0 wc))
      case first =>
       have H := HC37.out
       clear HC37
       by_cases c38 : t347 = 4
       ·
        rw [if_pos c38] at H
        have c38b0 : (t347 == 4) = true := beq_iff_eq.mpr c38
        have c38b1 : (t347 != 4) = false := bne_eq_false_iff_eq.mpr c38
        clear c38
        (first | rw [c38b0] | (simp only [i64_w, i32_w]; rw [c38b0]) | skip)
        have H' := zM H
        clear H
        go_wp2
        go_meet
        case rel => exact ⟨_, ((t347 == 4)), (by first | rfl | (simp; done) | (simp [*]; done)), H', ⟨by have := HJ11.out; first | omega | exact Nat.le_refl _⟩, ⟨by (with_reducible repeat (first | refine zX ?_ _ | refine zY ?_ | refine zZ ?_ _)); exact BK345.out⟩, ⟨by (with_reducible repeat (first | refine zX ?_ _ | refine zY ?_ | refine zZ ?_ _)); exact BK346.out⟩, ⟨by repeat (first | (with_reducible first | exact HI0.out | apply IsS111.alloc | apply IsS111.drewN | apply IsS111.drew | apply IsS111.set_1 | refine IsS111.far ?_ NB0_345.out _ | refine IsS111.far ?_ NB0_346.out _) | exact HI0.out)⟩, ⟨by repeat (first | (with_reducible first | exact HK.out | apply KeepBut.set_ | apply keep_drewN | apply keep_drew | apply keep_alloc | refine keep_far ?_ GW345.out _ | refine keep_far ?_ GW346.out _) | exact HK.out)⟩, ⟨by repeat (first | (with_reducible first | exact HB.out | apply zU | apply zV | apply zW | refine zH ?_ (IsS111.ge HI0.out) | refine zH ?_ GE345.out | refine zH ?_ GE346.out) | exact HB.out)⟩⟩
       ·
        rw [if_neg c38] at H
        have c38b0 : (t347 == 4) = false := beq_eq_false_iff_ne.mpr c38
        have c38b1 : (t347 != 4) = true := bne_iff_ne.mpr c38
        (first | rw [c38b0] | (simp only [i64_w, i32_w]; rw [c38b0]) | skip)
        have H' := zM H
        clear H
        go_wp2
        go_meet
        case rel => exact ⟨_, ((t347 == 5)), (by first | rfl | (simp; done) | (simp [*]; done)), H', ⟨by have := HJ11.out; first | omega | exact Nat.le_refl _⟩, ⟨by (with_reducible repeat (first | refine zX ?_ _ | refine zY ?_ | refine zZ ?_ _)); exact BK345.out⟩, ⟨by (with_reducible repeat (first | refine zX ?_ _ | refine zY ?_ | refine zZ ?_ _)); exact BK346.out⟩, ⟨by repeat (first | (with_reducible first | exact HI0.out | apply IsS111.alloc | apply IsS111.drewN | apply IsS111.drew | apply IsS111.set_1 | refine IsS111.far ?_ NB0_345.out _ | refine IsS111.far ?_ NB0_346.out _) | exact HI0.out)⟩, ⟨by repeat (first | (with_reducible first | exact HK.out | apply KeepBut.set_ | apply keep_drewN | apply keep_drew | apply keep_alloc | refine keep_far ?_ GW345.out _ | refine keep_far ?_ GW346.out _) | exact HK.out)⟩, ⟨by repeat (first | (with_reducible first | exact HB.out | apply zU | apply zV | apply zW | refine zH ?_ (IsS111.ge HI0.out) | refine zH ?_ GE345.out | refine zH ?_ GE346.out) | exact HB.out)⟩⟩
      case rest =>
       clear HC37
       try clear c1
       try clear c2
       try clear p2
       try clear c3
       try clear p3
       try clear q3
       try clear hx3
       try clear p6
       try clear c7
       try clear c8
       try clear c9
       try clear c11
       try clear c11b0
       try clear c11b1
       try clear c13
       try clear c13b0
       try clear c13b1
       try clear c14
       try clear c14b0
       try clear c14b1
       try clear c15
       try clear c18
       try clear c18b0
       try clear c18b1
       try clear c20
       try clear c20b0
       try clear c21
       try clear c21b0
       try clear c23
       try clear c24
       try clear c33
       try clear c34
       try clear p35
       try clear q35
       try clear hx35
       try clear c38
       try clear c38b0
       try clear c38b1
       try clear hcz25_0
       try clear hcz25_1
       try clear hcz25_2
       try clear hcz31_0
       try clear hcz31_1
       try clear hcz31_2
       try clear hcz35_0
       try clear hcz35_1
       try clear hcz35_2
       try clear hcz9_0
       try clear hcz9_1
       try clear hcz9_2
       try clear hfz25_0
       try clear hfz25_1
       try clear hfz25_2
       try clear hfz31_0
       try clear hfz31_1
       try clear hfz31_2
       try clear hfz35_0
       try clear hfz35_1
       try clear hfz35_2
       try clear hfz9_0
       try clear hfz9_1
       try clear hfz9_2
       try clear hx358_0
       try clear p2
       try clear p358
       try clear q358
       obtain ⟨kq, x32_36, rfl, HA, HJ36, BK345, BK346, HI0, HK, HB⟩ := hcut
       cases kq with
       | zero => exact absurd HA.out (by simp [spec_l20Value.j1])
       | succ kj36 =>
        have H := HA.out
        clear HA
        simp only [spec_l20Value.j1] at H
        by_cases c39 : x32_36 = true
        ·
         subst c39
         have H1 : ((spec_l20Rd_pick.f kj36 s0_0 t348 4).bind fun bt359 => (spec_l20Value.l0 kj36 a1 bt359.1 s0_0 bt359.2 2 0 (⟨#[]⟩ : ByteArray))) = some (r1, r2, r3, r4) := by rw [if_pos rfl] at H; exact H
         clear H
         have H := H1
         clear H1
         replace H := Option.bind_eq_some_iff.mp H
         obtain ⟨⟨t359, t360⟩, A400, H⟩ := H
         replace H : (spec_l20Value.l0 kj36 a1 t359 s0_0 t360 2 0 (⟨#[]⟩ : ByteArray)) = some (r1, r2, r3, r4) := H
         have A40 := zM A400
         clear A400
         have H' := zM H
         clear H
         have hnb41 := NB346_345.out
         have hnc41 := NB345_346.out
         have hnb42 := NB346_0.out
         have hnc42 := NB0_346.out
         have hcz43_0 : wc.cell? ⟨gb346, 0, none⟩ = some (.int .i64 0) := (zK BK346.out 0).trans rfl
         have hcz43_1 : wc.cell? ⟨gb346, 1, none⟩ = some (.int .i64 0) := (zK BK346.out 1).trans rfl
         have hcz43_2 : wc.cell? ⟨gb346, 2, none⟩ = some (.string (⟨#[]⟩ : ByteArray)) := (zK BK346.out 2).trans rfl
         have hfz43_0 := zF BK346.out 0
         have hfz43_1 := zF BK346.out 1
         have hfz43_2 := zF BK346.out 2
         go_wp2_with (first | ((with_reducible refine gate_callee (f := 70) rfl ?_); refine goesL_ (some 37) rfl rfl Try.func70 (by kernel_rfl) rfl #[.pointer (some ⟨g, 0, none⟩), .int .i64 4] rfl (by (try simp only [List.map_toArray, List.map_cons, List.map_nil]); first | done | rfl | (simp only [List.length_drop, List.length_take]; rfl)) ?_; (with_reducible refine (spec_l20Rd_pick.calls kj36 g s0_0 t348 4 t359 t360 w0 _ ?side1 ?side2 A40.out).mono ?_); (case side1 => repeat (first | (with_reducible first | exact HI0.out | apply IsS111.alloc | apply IsS111.drewN | apply IsS111.drew | apply IsS111.set_1 | refine IsS111.far ?_ NB0_345.out _ | refine IsS111.far ?_ NB0_346.out _) | exact HI0.out)); (case side2 => repeat (first | (with_reducible first | exact HB.out | apply zU | apply zV | apply zW | refine zH ?_ (IsS111.ge HI0.out) | refine zH ?_ GE345.out | refine zH ?_ GE346.out) | exact HB.out)); rintro e w44 ⟨rfl, hi, hb, hk⟩; refine ⟨_, rfl, ?_⟩; have n0_ := zM (KeepBut.blk hk (g' := gb345) (o := .cells #[.int .i64 0, .int .i64 0, .string (⟨#[]⟩ : ByteArray)] 83 (0, 0)) (by (with_reducible repeat (first | refine zX ?_ _ | refine zY ?_ | refine zZ ?_ _)); refine blk_far ?_ NB345_346.out _; (with_reducible repeat (first | refine zX ?_ _ | refine zY ?_ | refine zZ ?_ _)); refine blk_far ?_ NB345_346.out _; (with_reducible repeat (first | refine zX ?_ _ | refine zY ?_ | refine zZ ?_ _)); refine blk_far ?_ NB345_346.out _; (with_reducible repeat (first | refine zX ?_ _ | refine zY ?_ | refine zZ ?_ _)); exact BK345.out) NB345_0.out (by simp)); have n1_ := zM (KeepBut.blk hk (g' := gb346) (o := .cells #[.int .i64 2, .int .i64 0, .string (⟨#[]⟩ : ByteArray)] 83 (0, 0)) (by (with_reducible repeat (first | refine zX ?_ _ | refine zY ?_ | refine zZ ?_ _)); refine blk_put (cs := #[.int .i64 2, .int .i64 0, .string (⟨#[]⟩ : ByteArray)]) ?_ 2 _ rfl; (with_reducible repeat (first | refine zX ?_ _ | refine zY ?_ | refine zZ ?_ _)); refine blk_put (cs := #[.int .i64 2, .int .i64 0, .string (⟨#[]⟩ : ByteArray)]) ?_ 1 _ rfl; (with_reducible repeat (first | refine zX ?_ _ | refine zY ?_ | refine zZ ?_ _)); refine blk_put (cs := #[.int .i64 0, .int .i64 0, .string (⟨#[]⟩ : ByteArray)]) ?_ 0 _ rfl; (with_reducible repeat (first | refine zX ?_ _ | refine zY ?_ | refine zZ ?_ _)); exact BK346.out) NB346_0.out (by simp)); have n2_ := zM (KeepBut.trans (by repeat (first | (with_reducible first | exact HK.out | apply KeepBut.set_ | apply keep_drewN | apply keep_drew | apply keep_alloc | refine keep_far ?_ GW345.out _ | refine keep_far ?_ GW346.out _) | exact HK.out)) hk (.inl rfl)); have n3_ := zM (hb); have n4_ := zM (hi); clear BK345; clear BK346; clear HK; clear HB; clear HI0; have BK345 := n0_; have BK346 := n1_; have HK := n2_; have HB := n3_; have HI0 := n4_; clear n0_ n1_ n2_ n3_ n4_; (try clear hb); (try clear hb2); (try clear hk); (try clear hi)))
         go_loopg [6] kj36 (fun kq v6 w' => ∃ (x6_3 : Int) (x1001_3 : Int) (x347002_3 : ByteArray), v6 = .int .i64 x6_3 ∧ Aside0 (spec_l20Value.l0 kq a1 x6_3 s0_0 x1001_3 2 0 x347002_3 = some (r1, r2, r3, r4)) ∧ Aside0 (kq ≤ kj36) ∧ Aside0 (w'.heap[gb345]? = some (.cells #[.int .i64 0, .int .i64 0, .string (⟨#[]⟩ : ByteArray)] 83 (0, 0))) ∧ Aside0 (w'.heap[gb346]? = some (.cells #[.int .i64 2, .int .i64 0, .string x347002_3] 83 (0, 0))) ∧ Aside0 (IsS111 w0 w' g s0_0 x1001_3) ∧ Aside0 (KeepBut w w' g none) ∧ Aside0 (Below w0.heap.size w0 w'))
         case atStart => exact ⟨(t359), (t360), ((⟨#[]⟩ : ByteArray)), (by first | rfl | (simp; done) | (simp [*]; done)), H', ⟨Nat.le_refl _⟩, ⟨by (with_reducible repeat (first | refine zX ?_ _ | refine zY ?_ | refine zZ ?_ _)); exact BK345.out⟩, ⟨by (with_reducible repeat (first | refine zX ?_ _ | refine zY ?_ | refine zZ ?_ _)); exact BK346.out⟩, ⟨by repeat (first | (with_reducible first | exact HI0.out | apply IsS111.alloc | apply IsS111.drewN | apply IsS111.drew | apply IsS111.set_1 | refine IsS111.far ?_ NB0_345.out _ | refine IsS111.far ?_ NB0_346.out _) | exact HI0.out)⟩, ⟨by repeat (first | (with_reducible first | exact HK.out | apply KeepBut.set_ | apply keep_drewN | apply keep_drew | apply keep_alloc | refine keep_far ?_ GW345.out _ | refine keep_far ?_ GW346.out _) | exact HK.out)⟩, ⟨by repeat (first | (with_reducible first | exact HB.out | apply zU | apply zV | apply zW | refine zH ?_ (IsS111.ge HI0.out) | refine zH ?_ GE345.out | refine zH ?_ GE346.out) | exact HB.out)⟩⟩
         case round =>
          clear H'
          try clear c1
          try clear c2
          try clear p2
          try clear c3
          try clear p3
          try clear q3
          try clear hx3
          try clear c4
          try clear p6
          try clear c7
          try clear c8
          try clear c9
          try clear c11
          try clear c11b0
          try clear c11b1
          try clear c13
          try clear c13b0
          try clear c13b1
          try clear c14
          try clear c14b0
          try clear c14b1
          try clear c15
          try clear c18
          try clear c18b0
          try clear c18b1
          try clear c20
          try clear c20b0
          try clear c21
          try clear c21b0
          try clear c23
          try clear c24
          try clear c33
          try clear c34
          try clear p35
          try clear q35
          try clear hx35
          try clear c38
          try clear c38b0
          try clear c38b1
          try clear c39
          try clear c41
          try clear c42
          try clear hcz25_0
          try clear hcz25_1
          try clear hcz25_2
          try clear hcz31_0
          try clear hcz31_1
          try clear hcz31_2
          try clear hcz35_0
          try clear hcz35_1
          try clear hcz35_2
          try clear hcz43_0
          try clear hcz43_1
          try clear hcz43_2
          try clear hcz9_0
          try clear hcz9_1
          try clear hcz9_2
          try clear hfz25_0
          try clear hfz25_1
          try clear hfz25_2
          try clear hfz31_0
          try clear hfz31_1
          try clear hfz31_2
          try clear hfz35_0
          try clear hfz35_1
          try clear hfz35_2
          try clear hfz43_0
          try clear hfz43_1
          try clear hfz43_2
          try clear hfz9_0
          try clear hfz9_1
          try clear hfz9_2
          try clear hx358_0
          try clear p2
          try clear p3
          try clear p35
          try clear p358
          try clear p6
          try clear q3
          try clear q35
          try clear q358
          obtain ⟨x6_3, x1001_3, x347002_3, rfl, HA, HK3, BK345, BK346, HI0, HK, HB⟩ := hrel
          cases gk with
          | zero => exact absurd HA.out (by simp [spec_l20Value.l0])
          | succ k3 =>
           have H := HA.out
           clear HA
           simp only [spec_l20Value.l0] at H
           by_cases c45 : x6_3 > 0
           ·
            rw [if_pos c45] at H
            have c45b0 : decide (0 < x6_3) = true := decide_eq_true c45
            clear c45
            replace H := Option.bind_eq_some_iff.mp H
            obtain ⟨⟨t361, t362⟩, A460, H⟩ := H
            replace H : ((some (([(wrap64 (97 + t361)) % 256] : List Int) : List Int)).bind fun y363 => (if x347002_3.size + (strOfNums y363).size ≤ 9223372036854775807 then (spec_l20Value.l0 k3 a1 (wrap64 (x6_3 - 1)) s0_0 t362 2 0 (x347002_3 ++ (strOfNums y363))) else (none))) = some (r1, r2, r3, r4) := H
            have A46 := zM A460
            clear A460
            obtain ⟨y363, hy363⟩ : ∃ y_ : List Int, y_ = (([(wrap64 (97 + t361)) % 256] : List Int)) := ⟨_, rfl⟩
            replace H : (if x347002_3.size + (strOfNums y363).size ≤ 9223372036854775807 then (spec_l20Value.l0 k3 a1 (wrap64 (x6_3 - 1)) s0_0 t362 2 0 (x347002_3 ++ (strOfNums y363))) else (none)) = some (r1, r2, r3, r4) := by first | (rw [hy363]; with_reducible exact H) | (have H2_ := (Option.bind_some _ _).symm.trans H; rw [hy363]; with_reducible exact H2_) | (have H2_ := (Option.bind_some _ _).symm.trans H; with_reducible exact H2_) | with_reducible exact H | (rw [hy363]; exact H) | exact H
            have Ny363 := zM hy363
            clear hy363
            by_cases c47 : x347002_3.size + (strOfNums y363).size ≤ 9223372036854775807
            ·
             rw [if_pos c47] at H
             have c47b0 := eq_true c47
             have c47b1 : decide (x347002_3.size + (strOfNums y363).size ≤ 9223372036854775807) = true := decide_eq_true c47
             try have c47b2 : (9223372036854775807 < x347002_3.size + (strOfNums y363).size) = False := eq_false (Nat.not_lt.2 c47)
             have H' := zM H
             clear H
             try go_wp2
             have n0_ := zM (zY BK345.out)
             have n1_ := zM (zY BK346.out)
             have n2_ := zM (IsS111.drew HI0.out)
             have n3_ := zM (keep_drew HK.out)
             have n4_ := zM (zW HB.out)
             clear BK345
             clear BK346
             clear HI0
             clear HK
             clear HB
             have BK345 := n0_
             have BK346 := n1_
             have HI0 := n2_
             have HK := n3_
             have HB := n4_
             clear n0_ n1_ n2_ n3_ n4_
             refine start_ (n := 11) (S := fun w' => w'.cell? ⟨gb346, 0, none⟩ = some (.int .i64 2) ∧ w'.cell? ⟨gb346, 1, none⟩ = some (.int .i64 0) ∧ w'.cell? ⟨gb346, 2, none⟩ = some (.string x347002_3)) (ds := [10]) #[false, false, false, false, false, false, false, false, false, false, false] (by kernel_rfl) rfl rfl ⟨(zK BK346.out 0).trans rfl, (zK BK346.out 1).trans rfl, (zK BK346.out 2).trans rfl⟩ (fun hHeld => ?_); refine with_tabW spec_l20Value.tab17 spec_l20Value.bits17 (fun HT_ HW_ => ?_)
             generalize wr.drew = w48 at BK345 BK346 HI0 HK HB hHeld ⊢
             refine pure_ (i := 0) (N := some 42) (v := ?_) (a' := ?_) #[true, false, false, false, false, false, false, false, false, false, false] rfl rfl (any_of HT_.out (by kernel_rfl)) (fun _ _ _ h => h) (Or.inl ⟨by rfl, ?_⟩) ?_ ?_
             rotate_left
             ·
              intro w'
              go_simp
              with_reducible rfl
             rotate_left
             ·
              simp only [Act.put, zA, zB, zC, i64_w, i32_w]
              rfl
             refine pure_ (i := 2) (N := some 44) (v := ?_) (a' := ?_) #[true, false, true, false, false, false, false, false, false, false, false] rfl rfl (any_of HT_.out (by kernel_rfl)) (fun _ _ _ h => h) (Or.inl ⟨by rfl, ?_⟩) ?_ ?_
             rotate_left
             ·
              intro w'
              go_simp
              with_reducible rfl
             rotate_left
             ·
              simp only [Act.put, zA, zB, zC, i64_w, i32_w]
              rfl
             refine take_ (i := 1) (N := some 43) (v := ?_) (a' := ?_) #[true, true, true, false, false, false, false, false, false, false, false] rfl rfl (take_ofW HT_.out HW_.out (by kernel_rfl)) (fun _ _ _ h => h) (Or.inl ⟨by rfl, ?_⟩) hHeld ?_ ?_
             rotate_left
             ·
              rintro w' ⟨s0, s1, s2⟩
              go_simp
              with_reducible rfl
             rotate_left
             ·
              simp only [Act.put, zA, zB, zC, i64_w, i32_w]
              rfl
             refine one_ (i := 3) (N := some 45) #[true, true, true, true, false, false, false, false, false, false, false] rfl rfl (one_of HT_.out (by kernel_rfl)) (by decide) (fun K hK => ?_)
             refine goes_ Try.func70 (by kernel_rfl) rfl #[.pointer (some ⟨g, 0, none⟩), .int .i64 3] (by rfl) rfl rfl (by (try simp only [List.map_toArray, List.map_cons, List.map_nil]); first | done | rfl | (simp only [List.length_drop, List.length_take]; rfl)) ?_
             with_reducible refine (spec_l20Rd_pick.calls k3 g s0_0 x1001_3 3 t361 t362 w0 _ ?side1 ?side2 A46.out).mono ?_
             (case side1 => repeat (first | (with_reducible first | exact HI0.out | apply IsS111.alloc | apply IsS111.drewN | apply IsS111.drew | apply IsS111.set_1 | refine IsS111.far ?_ NB0_345.out _ | refine IsS111.far ?_ NB0_346.out _) | exact HI0.out))
             (case side2 => repeat (first | (with_reducible first | exact HB.out | apply zU | apply zV | apply zW | refine zH ?_ (IsS111.ge HI0.out) | refine zH ?_ GE345.out | refine zH ?_ GE346.out) | exact HB.out))
             rintro e w49 ⟨rfl, hi, hb, hk⟩
             refine ⟨_, rfl, ?_⟩
             have n0_ := zM (KeepBut.blk hk (g' := gb345) (o := .cells #[.int .i64 0, .int .i64 0, .string (⟨#[]⟩ : ByteArray)] 83 (0, 0)) (by (with_reducible repeat (first | refine zX ?_ _ | refine zY ?_ | refine zZ ?_ _)); exact BK345.out) NB345_0.out (by simp))
             have n1_ := zM (KeepBut.blk hk (g' := gb346) (o := .cells #[.int .i64 2, .int .i64 0, .string x347002_3] 83 (0, 0)) (by (with_reducible repeat (first | refine zX ?_ _ | refine zY ?_ | refine zZ ?_ _)); exact BK346.out) NB346_0.out (by simp))
             have n2_ := zM (KeepBut.trans (by repeat (first | (with_reducible first | exact HK.out | apply KeepBut.set_ | apply keep_drewN | apply keep_drew | apply keep_alloc | refine keep_far ?_ GW345.out _ | refine keep_far ?_ GW346.out _) | exact HK.out)) hk (.inl rfl))
             have n3_ := zM (hb)
             have n4_ := zM (hi)
             clear BK345
             clear BK346
             clear HK
             clear HB
             clear HI0
             have BK345 := n0_
             have BK346 := n1_
             have HK := n2_
             have HB := n3_
             have HI0 := n4_
             clear n0_ n1_ n2_ n3_ n4_
             (try clear hb)
             (try clear hb2)
             (try clear hk)
             (try clear hi)
             refine hK.out _ _ ⟨(zK BK346.out 0).trans rfl, (zK BK346.out 1).trans rfl, (zK BK346.out 2).trans rfl⟩ (fun hHeld => ?_)
             clear hK K
             refine norm_ (a' := ?_) ?_ ?_
             rotate_left
             ·
              show Act.put _ (some 45) _ = _
              simp only [Act.put, zA, zB, zC, i64_w, i32_w]
              rfl
             refine pure_ (i := 4) (N := some 46) (v := ?_) (a' := ?_) #[true, true, true, true, true, false, false, false, false, false, false] rfl rfl (any_of HT_.out (by kernel_rfl)) (fun _ _ _ h => h) (Or.inl ⟨by rfl, ?_⟩) ?_ ?_
             rotate_left
             ·
              intro w'
              go_simp
              with_reducible rfl
             rotate_left
             ·
              simp only [Act.put, zA, zB, zC, i64_w, i32_w]
              rfl
             refine pure_ (i := 5) (N := some 47) (v := ?_) (a' := ?_) #[true, true, true, true, true, true, false, false, false, false, false] rfl rfl (any_of HT_.out (by kernel_rfl)) (fun _ _ _ h => h) (Or.inl ⟨by rfl, ?_⟩) ?_ ?_
             rotate_left
             ·
              intro w'
              go_simp
              with_reducible rfl
             rotate_left
             ·
              simp only [Act.put, zA, zB, zC, i64_w, i32_w]
              rfl
             refine one_ (i := 6) (N := some 48) #[true, true, true, true, true, true, true, false, false, false, false] rfl rfl (one_of HT_.out (by kernel_rfl)) (by decide) (fun K hK => ?_)
             refine Kd.R_lit_step (Kd.int .u8) _ 5 ?hg (N := 48) ?hd (xs := ([(wrap64 (97 + t361)) % 256] : List Int)) (inner := [.int .u8 ((wrap64 (97 + t361)) % 256)]) (ok := fun _ => True) (okp := fun _ => True) ?hr ?hp (fun _ hk => hk) trivial (Below.refl _ _) (Nat.le_refl _) (by simp) ?_; (case hd => rfl); (case hg => rfl); (case hr => first | (go_simp; done) | (go_simp; rfl)); (case hp => exact (Reps.one (show Kd.M (Kd.int .u8) _ _ _ ((wrap64 (97 + t361)) % 256) [.int .u8 ((wrap64 (97 + t361)) % 256)] from rfl) (Reps.none _ _)))
             intro v364 w50 ho51 hb hg_ hnew_
             clear hg_ hnew_
             (first | rw [← Ny363.out] at ho51 | (simp only [Int.reduceToNat] at ho51; rw [← Ny363.out] at ho51))
             have n0_ := zM (Kd.R_lower ho51 (keep_size (w := w) (g := g) (row := none) (by repeat (first | (with_reducible first | exact HK.out | apply KeepBut.set_ | apply keep_drewN | apply keep_drew | apply keep_alloc | refine keep_far ?_ GW345.out _ | refine keep_far ?_ GW346.out _) | exact HK.out))))
             have n1_ := zM (zJ (g := gb345) (o := .cells #[.int .i64 0, .int .i64 0, .string (⟨#[]⟩ : ByteArray)] 83 (0, 0)) (by (with_reducible repeat (first | refine zX ?_ _ | refine zY ?_ | refine zZ ?_ _)); exact BK345.out) hb)
             have n2_ := zM (zJ (g := gb346) (o := .cells #[.int .i64 2, .int .i64 0, .string x347002_3] 83 (0, 0)) (by (with_reducible repeat (first | refine zX ?_ _ | refine zY ?_ | refine zZ ?_ _)); exact BK346.out) hb)
             have n3_ := zM (IsS111.below (by repeat (first | (with_reducible first | exact HI0.out | apply IsS111.alloc | apply IsS111.drewN | apply IsS111.drew | apply IsS111.set_1 | refine IsS111.far ?_ NB0_345.out _ | refine IsS111.far ?_ NB0_346.out _) | exact HI0.out)) hb)
             have n4_ := zM (KeepBut.trans (by repeat (first | (with_reducible first | exact HK.out | apply KeepBut.set_ | apply keep_drewN | apply keep_drew | apply keep_alloc | refine keep_far ?_ GW345.out _ | refine keep_far ?_ GW346.out _) | exact HK.out)) (KeepBut.of_below hb g none) (.inl rfl))
             have n5_ := zM (zG (by repeat (first | (with_reducible first | exact HB.out | apply zU | apply zV | apply zW | refine zH ?_ (IsS111.ge HI0.out) | refine zH ?_ GE345.out | refine zH ?_ GE346.out) | exact HB.out)) hb)
             clear BK345
             clear BK346
             clear HI0
             clear HK
             clear HB
             have HO365 := n0_
             have BK345 := n1_
             have BK346 := n2_
             have HI0 := n3_
             have HK := n4_
             have HB := n5_
             clear n0_ n1_ n2_ n3_ n4_ n5_
             clear hb ho51
             refine hK.out _ _ ⟨(zK BK346.out 0).trans rfl, (zK BK346.out 1).trans rfl, (zK BK346.out 2).trans rfl⟩ (fun hHeld => ?_)
             clear hK K
             refine norm_ (a' := ?_) ?_ ?_
             rotate_left
             ·
              show Act.put _ (some 48) _ = _
              simp only [Act.put, zA, zB, zC, i64_w, i32_w]
              rfl
             refine one_ (i := 7) (N := some 49) #[true, true, true, true, true, true, true, true, false, false, false] rfl rfl (one_of HT_.out (by kernel_rfl)) (by decide) (fun K hK => ?_)
             have hcv52 := own_string (P := Try.prog) Try.underlying37 Try.underlying5 Try.underlying9 (Kd.own_of_R HO365.out)
             refine value_ (w1 := ?_) (v := ?_) (by rfl) rfl ?_ ?_
             rotate_left 2
             ·
              go_simp
              constructor
              ·
               rfl
              ·
               rfl
             clear hcv52
             refine hK.out _ _ ⟨(zK BK346.out 0).trans rfl, (zK BK346.out 1).trans rfl, (zK BK346.out 2).trans rfl⟩ (fun hHeld => ?_)
             clear hK K
             refine norm_ (a' := ?_) ?_ ?_
             rotate_left
             ·
              show Act.put _ (some 49) _ = _
              simp only [Act.put, zA, zB, zC, i64_w, i32_w]
              rfl
             refine pure_ (i := 8) (N := some 50) (v := ?_) (a' := ?_) #[true, true, true, true, true, true, true, true, true, false, false] rfl rfl (any_of HT_.out (by kernel_rfl)) (fun _ _ _ h => h) (Or.inl ⟨by rfl, ?_⟩) ?_ ?_
             rotate_left
             ·
              intro w'
              go_simp
              with_reducible rfl
             rotate_left
             ·
              simp only [Act.put, zA, zB, zC, i64_w, i32_w]
              rfl
             refine pure_ (i := 9) (N := some 51) (v := ?_) (a' := ?_) #[true, true, true, true, true, true, true, true, true, true, false] rfl rfl (any_of HT_.out (by kernel_rfl)) (fun _ _ _ h => h) (Or.inl ⟨by rfl, ?_⟩) ?_ ?_
             rotate_left
             ·
              intro w'
              go_simp
              with_reducible rfl
             rotate_left
             ·
              simp only [Act.put, zA, zB, zC, i64_w, i32_w]
              rfl
             refine last_ (i := 10) (N := none) #[true, true, true, true, true, true, true, true, true, true, true] rfl rfl (one_of HT_.out (by kernel_rfl)) (by decide) (fun K hK => ?_)
             have hs53 : w50.cell? ⟨gb346, 2, none⟩ = some (.string x347002_3) := (zK BK346.out 2).trans rfl
             have hfs53 := zF BK346.out 2
             have hns53_0 := NB345_346.out
             have hms53_0 := NB346_345.out
             refine skip_ (w1 := ?_) (by rfl) rfl ?_ ?_
             rotate_left
             ·
              go_simp
              rfl
             refine hK.out _ _ ?_
             clear hK K
             refine done_ (done_of HT_.out (by kernel_rfl)) ?_
             try go_wp2
             go_roundg k3
             case measure => have := HJ11.out; have := HJ36.out; have := HK3.out; omega
             case rel => exact ⟨(wrap64 (x6_3 - 1)), (t362), (x347002_3 ++ (strOfNums y363)), (by first | rfl | (simp; done) | (simp [*]; done)), H', ⟨by have := HJ11.out; have := HJ36.out; have := HK3.out; omega⟩, ⟨by (with_reducible repeat (first | refine zX ?_ _ | refine zY ?_ | refine zZ ?_ _)); refine blk_far ?_ NB345_346.out _; (with_reducible repeat (first | refine zX ?_ _ | refine zY ?_ | refine zZ ?_ _)); exact BK345.out⟩, ⟨by (with_reducible repeat (first | refine zX ?_ _ | refine zY ?_ | refine zZ ?_ _)); refine blk_put (cs := #[.int .i64 2, .int .i64 0, .string x347002_3]) ?_ 2 _ rfl; (with_reducible repeat (first | refine zX ?_ _ | refine zY ?_ | refine zZ ?_ _)); exact BK346.out⟩, ⟨by repeat (first | (with_reducible first | exact HI0.out | apply IsS111.alloc | apply IsS111.drewN | apply IsS111.drew | apply IsS111.set_1 | refine IsS111.far ?_ NB0_345.out _ | refine IsS111.far ?_ NB0_346.out _) | exact HI0.out)⟩, ⟨by repeat (first | (with_reducible first | exact HK.out | apply KeepBut.set_ | apply keep_drewN | apply keep_drew | apply keep_alloc | refine keep_far ?_ GW345.out _ | refine keep_far ?_ GW346.out _) | exact HK.out)⟩, ⟨by repeat (first | (with_reducible first | exact HB.out | apply zU | apply zV | apply zW | refine zH ?_ (IsS111.ge HI0.out) | refine zH ?_ GE345.out | refine zH ?_ GE346.out) | exact HB.out)⟩⟩
            ·
             rw [if_neg c47] at H
             exact absurd H (by simp)
           ·
            rw [if_neg c45] at H
            have c45b0 : decide (0 < x6_3) = false := decide_eq_false c45
            clear c45
            have H' := zM H
            clear H
            go_wp2
            go_meet
            case rel => exact ⟨_, (x1001_3), (2), (0), (x347002_3), H', ⟨by have := HJ11.out; have := HJ36.out; have := HK3.out; first | omega | exact Nat.le_refl _⟩, ⟨by (with_reducible repeat (first | refine zX ?_ _ | refine zY ?_ | refine zZ ?_ _)); exact BK345.out⟩, ⟨by (with_reducible repeat (first | refine zX ?_ _ | refine zY ?_ | refine zZ ?_ _)); exact BK346.out⟩, ⟨by repeat (first | (with_reducible first | exact HI0.out | apply IsS111.alloc | apply IsS111.drewN | apply IsS111.drew | apply IsS111.set_1 | refine IsS111.far ?_ NB0_345.out _ | refine IsS111.far ?_ NB0_346.out _) | exact HI0.out)⟩, ⟨by repeat (first | (with_reducible first | exact HK.out | apply KeepBut.set_ | apply keep_drewN | apply keep_drew | apply keep_alloc | refine keep_far ?_ GW345.out _ | refine keep_far ?_ GW346.out _) | exact HK.out)⟩, ⟨by repeat (first | (with_reducible first | exact HB.out | apply zU | apply zV | apply zW | refine zH ?_ (IsS111.ge HI0.out) | refine zH ?_ GE345.out | refine zH ?_ GE346.out) | exact HB.out)⟩⟩
        ·
         replace c39 := Bool.eq_false_iff.mpr c39
         subst c39
         have H1 : ((spec_l20Rd_pick.f kj36 s0_0 t348 2).bind fun bt366 => (spec_l20Value.j3 kj36 a1 s0_0 bt366.2 3 bt366.1 (⟨#[]⟩ : ByteArray))) = some (r1, r2, r3, r4) := by rw [if_neg (show ¬ (false = true) by decide)] at H; exact H
         clear H
         have H := H1
         clear H1
         replace H := Option.bind_eq_some_iff.mp H
         obtain ⟨⟨t366, t367⟩, A540, H⟩ := H
         replace H : (spec_l20Value.j3 kj36 a1 s0_0 t367 3 t366 (⟨#[]⟩ : ByteArray)) = some (r1, r2, r3, r4) := H
         have A54 := zM A540
         clear A540
         have H' := zM H
         clear H
         go_wp2_with (first | ((with_reducible refine gate_callee (f := 70) rfl ?_); refine goesL_ (some 11) rfl rfl Try.func70 (by kernel_rfl) rfl #[.pointer (some ⟨g, 0, none⟩), .int .i64 2] rfl (by (try simp only [List.map_toArray, List.map_cons, List.map_nil]); first | done | rfl | (simp only [List.length_drop, List.length_take]; rfl)) ?_; (with_reducible refine (spec_l20Rd_pick.calls kj36 g s0_0 t348 2 t366 t367 w0 _ ?side1 ?side2 A54.out).mono ?_); (case side1 => repeat (first | (with_reducible first | exact HI0.out | apply IsS111.alloc | apply IsS111.drewN | apply IsS111.drew | apply IsS111.set_1 | refine IsS111.far ?_ NB0_345.out _ | refine IsS111.far ?_ NB0_346.out _) | exact HI0.out)); (case side2 => repeat (first | (with_reducible first | exact HB.out | apply zU | apply zV | apply zW | refine zH ?_ (IsS111.ge HI0.out) | refine zH ?_ GE345.out | refine zH ?_ GE346.out) | exact HB.out)); rintro e w55 ⟨rfl, hi, hb, hk⟩; refine ⟨_, rfl, ?_⟩; have n0_ := zM (KeepBut.blk hk (g' := gb345) (o := .cells #[.int .i64 0, .int .i64 0, .string (⟨#[]⟩ : ByteArray)] 83 (0, 0)) (by (with_reducible repeat (first | refine zX ?_ _ | refine zY ?_ | refine zZ ?_ _)); exact BK345.out) NB345_0.out (by simp)); have n1_ := zM (KeepBut.blk hk (g' := gb346) (o := .cells #[.int .i64 0, .int .i64 0, .string (⟨#[]⟩ : ByteArray)] 83 (0, 0)) (by (with_reducible repeat (first | refine zX ?_ _ | refine zY ?_ | refine zZ ?_ _)); exact BK346.out) NB346_0.out (by simp)); have n2_ := zM (KeepBut.trans (by repeat (first | (with_reducible first | exact HK.out | apply KeepBut.set_ | apply keep_drewN | apply keep_drew | apply keep_alloc | refine keep_far ?_ GW345.out _ | refine keep_far ?_ GW346.out _) | exact HK.out)) hk (.inl rfl)); have n3_ := zM (hb); have n4_ := zM (hi); clear BK345; clear BK346; clear HK; clear HB; clear HI0; have BK345 := n0_; have BK346 := n1_; have HK := n2_; have HB := n3_; have HI0 := n4_; clear n0_ n1_ n2_ n3_ n4_; (try clear hb); (try clear hb2); (try clear hk); (try clear hi); have hnb56 := NB346_345.out; have hnc56 := NB345_346.out; have hnb57 := NB346_0.out; have hnc57 := NB0_346.out; have hcz58_0 : w55.cell? ⟨gb346, 0, none⟩ = some (.int .i64 0) := (zK BK346.out 0).trans rfl; have hcz58_1 : w55.cell? ⟨gb346, 1, none⟩ = some (.int .i64 0) := (zK BK346.out 1).trans rfl; have hcz58_2 : w55.cell? ⟨gb346, 2, none⟩ = some (.string (⟨#[]⟩ : ByteArray)) := (zK BK346.out 2).trans rfl; have hfz58_0 := zF BK346.out 0; have hfz58_1 := zF BK346.out 1; have hfz58_2 := zF BK346.out 2))
         go_meet
         case rel => exact ⟨_, (t367), (3), (t366), ((⟨#[]⟩ : ByteArray)), H', ⟨by have := HJ11.out; have := HJ36.out; first | omega | exact Nat.le_refl _⟩, ⟨by (with_reducible repeat (first | refine zX ?_ _ | refine zY ?_ | refine zZ ?_ _)); refine blk_far ?_ NB345_346.out _; (with_reducible repeat (first | refine zX ?_ _ | refine zY ?_ | refine zZ ?_ _)); refine blk_far ?_ NB345_346.out _; (with_reducible repeat (first | refine zX ?_ _ | refine zY ?_ | refine zZ ?_ _)); refine blk_far ?_ NB345_346.out _; (with_reducible repeat (first | refine zX ?_ _ | refine zY ?_ | refine zZ ?_ _)); exact BK345.out⟩, ⟨by (with_reducible repeat (first | refine zX ?_ _ | refine zY ?_ | refine zZ ?_ _)); refine blk_put (cs := #[.int .i64 3, .int .i64 t366, .string (⟨#[]⟩ : ByteArray)]) ?_ 2 _ rfl; (with_reducible repeat (first | refine zX ?_ _ | refine zY ?_ | refine zZ ?_ _)); refine blk_put (cs := #[.int .i64 3, .int .i64 0, .string (⟨#[]⟩ : ByteArray)]) ?_ 1 _ rfl; (with_reducible repeat (first | refine zX ?_ _ | refine zY ?_ | refine zZ ?_ _)); refine blk_put (cs := #[.int .i64 0, .int .i64 0, .string (⟨#[]⟩ : ByteArray)]) ?_ 0 _ rfl; (with_reducible repeat (first | refine zX ?_ _ | refine zY ?_ | refine zZ ?_ _)); exact BK346.out⟩, ⟨by repeat (first | (with_reducible first | exact HI0.out | apply IsS111.alloc | apply IsS111.drewN | apply IsS111.drew | apply IsS111.set_1 | refine IsS111.far ?_ NB0_345.out _ | refine IsS111.far ?_ NB0_346.out _) | exact HI0.out)⟩, ⟨by repeat (first | (with_reducible first | exact HK.out | apply KeepBut.set_ | apply keep_drewN | apply keep_drew | apply keep_alloc | refine keep_far ?_ GW345.out _ | refine keep_far ?_ GW346.out _) | exact HK.out)⟩, ⟨by repeat (first | (with_reducible first | exact HB.out | apply zU | apply zV | apply zW | refine zH ?_ (IsS111.ge HI0.out) | refine zH ?_ GE345.out | refine zH ?_ GE346.out) | exact HB.out)⟩⟩
 case rest =>
  clear HC4
  try clear c1
  try clear c2
  try clear p2
  try clear c3
  try clear p3
  try clear q3
  try clear hx3
  try clear c4
  try clear c5
  try clear hcv5
  try clear p6
  try clear c7
  try clear c8
  try clear c9
  try clear c11
  try clear c11b0
  try clear c11b1
  try clear c13
  try clear c13b0
  try clear c13b1
  try clear c14
  try clear c14b0
  try clear c14b1
  try clear c15
  try clear c18
  try clear c18b0
  try clear c18b1
  try clear c20
  try clear c20b0
  try clear c21
  try clear c21b0
  try clear c23
  try clear c24
  try clear c33
  try clear c34
  try clear p35
  try clear q35
  try clear hx35
  try clear c38
  try clear c38b0
  try clear c38b1
  try clear c39
  try clear c41
  try clear c42
  try clear c45
  try clear c45b0
  try clear c47
  try clear c47b0
  try clear c47b1
  try clear c47b2
  try clear hcv52
  try clear c56
  try clear c57
  try clear hcz25_0
  try clear hcz25_1
  try clear hcz25_2
  try clear hcz31_0
  try clear hcz31_1
  try clear hcz31_2
  try clear hcz35_0
  try clear hcz35_1
  try clear hcz35_2
  try clear hcz43_0
  try clear hcz43_1
  try clear hcz43_2
  try clear hcz58_0
  try clear hcz58_1
  try clear hcz58_2
  try clear hcz9_0
  try clear hcz9_1
  try clear hcz9_2
  try clear hfz25_0
  try clear hfz25_1
  try clear hfz25_2
  try clear hfz31_0
  try clear hfz31_1
  try clear hfz31_2
  try clear hfz35_0
  try clear hfz35_1
  try clear hfz35_2
  try clear hfz43_0
  try clear hfz43_1
  try clear hfz43_2
  try clear hfz58_0
  try clear hfz58_1
  try clear hfz58_2
  try clear hfz9_0
  try clear hfz9_1
  try clear hfz9_2
  try clear hx358_0
  try clear p2
  try clear p3
  try clear p35
  try clear p358
  try clear p6
  try clear q3
  try clear q35
  try clear q358
  obtain ⟨kq, x1001_3, x347000_3, x347001_3, x347002_3, HA, HJ3, BK345, BK346, HI0, HK, HB⟩ := hcut
  cases kq with
  | zero => exact absurd HA.out (by simp [spec_l20Value.j3])
  | succ kj3 =>
   have H := HA.out
   clear HA
   simp only [spec_l20Value.j3] at H
   replace H := Option.bind_eq_some_iff.mp H
   obtain ⟨⟨t368, t369⟩, A590, H⟩ := H
   replace H : (if t368 = true then ((spec_l20Rd_pick.f kj3 s0_0 t369 4).bind fun bt370 => (if bt370.1 = 0 then (some (x347000_3, 10000, x347002_3, bt370.2)) else (if bt370.1 = 1 then (if x347002_3.size + 7 ≤ 9223372036854775807 then (some (x347000_3, x347001_3, x347002_3 ++ (⟨#[97, 98, 99, 100, 101, 102, 103]⟩ : ByteArray), bt370.2)) else (none)) else (if bt370.1 = 2 then ((spec_l20Rd_pick.f kj3 s0_0 bt370.2 7).bind fun bt372 => (some (wrap64 (bt372.1 - 1), x347001_3, x347002_3, bt372.2))) else (if x347002_3.size + 1 ≤ 9223372036854775807 then (some (x347000_3, x347001_3, x347002_3 ++ (⟨#[65]⟩ : ByteArray), bt370.2)) else (none)))))) else (some (x347000_3, x347001_3, x347002_3, t369))) = some (r1, r2, r3, r4) := H
   have A59 := zM A590
   clear A590
   by_cases c60 : t368 = true
   ·
    subst c60
    have H1 : ((spec_l20Rd_pick.f kj3 s0_0 t369 4).bind fun bt370 => (if bt370.1 = 0 then (some (x347000_3, 10000, x347002_3, bt370.2)) else (if bt370.1 = 1 then (if x347002_3.size + 7 ≤ 9223372036854775807 then (some (x347000_3, x347001_3, x347002_3 ++ (⟨#[97, 98, 99, 100, 101, 102, 103]⟩ : ByteArray), bt370.2)) else (none)) else (if bt370.1 = 2 then ((spec_l20Rd_pick.f kj3 s0_0 bt370.2 7).bind fun bt372 => (some (wrap64 (bt372.1 - 1), x347001_3, x347002_3, bt372.2))) else (if x347002_3.size + 1 ≤ 9223372036854775807 then (some (x347000_3, x347001_3, x347002_3 ++ (⟨#[65]⟩ : ByteArray), bt370.2)) else (none)))))) = some (r1, r2, r3, r4) := by rw [if_pos rfl] at H; exact H
    clear H
    have H := H1
    clear H1
    replace H := Option.bind_eq_some_iff.mp H
    obtain ⟨⟨t370, t371⟩, A610, H⟩ := H
    replace H : (if t370 = 0 then (some (x347000_3, 10000, x347002_3, t371)) else (if t370 = 1 then (if x347002_3.size + 7 ≤ 9223372036854775807 then (some (x347000_3, x347001_3, x347002_3 ++ (⟨#[97, 98, 99, 100, 101, 102, 103]⟩ : ByteArray), t371)) else (none)) else (if t370 = 2 then ((spec_l20Rd_pick.f kj3 s0_0 t371 7).bind fun bt372 => (some (wrap64 (bt372.1 - 1), x347001_3, x347002_3, bt372.2))) else (if x347002_3.size + 1 ≤ 9223372036854775807 then (some (x347000_3, x347001_3, x347002_3 ++ (⟨#[65]⟩ : ByteArray), t371)) else (none))))) = some (r1, r2, r3, r4) := H
    have A61 := zM A610
    clear A610
    by_cases c62 : t370 = 0
    ·
     rw [if_pos c62] at H
     have c62b0 : (t370 == 0) = true := beq_iff_eq.mpr c62
     have c62b1 : (t370 != 0) = false := bne_eq_false_iff_eq.mpr c62
     clear c62
     simp only [Option.some.injEq, Prod.mk.injEq] at H
     obtain ⟨rfl, rfl, rfl, rfl⟩ := H
     go_wp2_with (first | ((with_reducible refine gate_callee (f := 90) rfl ?_); refine goesL_ (some 54) rfl rfl Try.func90 (by kernel_rfl) rfl #[.pointer (some ⟨g, 0, none⟩), .int .i64 a1] rfl (by (try simp only [List.map_toArray, List.map_cons, List.map_nil]); first | done | rfl | (simp only [List.length_drop, List.length_take]; rfl)) ?_; (with_reducible refine (spec_l20Rd_odd.calls kj3 g s0_0 x1001_3 a1 true t369 w0 _ ?side1 ?side2 A59.out).mono ?_); (case side1 => repeat (first | (with_reducible first | exact HI0.out | apply IsS111.alloc | apply IsS111.drewN | apply IsS111.drew | apply IsS111.set_1 | refine IsS111.far ?_ NB0_345.out _ | refine IsS111.far ?_ NB0_346.out _) | exact HI0.out)); (case side2 => repeat (first | (with_reducible first | exact HB.out | apply zU | apply zV | apply zW | refine zH ?_ (IsS111.ge HI0.out) | refine zH ?_ GE345.out | refine zH ?_ GE346.out) | exact HB.out)); rintro e w63 ⟨rfl, hi, hb, hk⟩; refine ⟨_, rfl, ?_⟩; have n0_ := zM (KeepBut.blk hk (g' := gb345) (o := .cells #[.int .i64 0, .int .i64 0, .string (⟨#[]⟩ : ByteArray)] 83 (0, 0)) (by (with_reducible repeat (first | refine zX ?_ _ | refine zY ?_ | refine zZ ?_ _)); exact BK345.out) NB345_0.out (by simp)); have n1_ := zM (KeepBut.blk hk (g' := gb346) (o := .cells #[.int .i64 x347000_3, .int .i64 x347001_3, .string x347002_3] 83 (0, 0)) (by (with_reducible repeat (first | refine zX ?_ _ | refine zY ?_ | refine zZ ?_ _)); exact BK346.out) NB346_0.out (by simp)); have n2_ := zM (KeepBut.trans (by repeat (first | (with_reducible first | exact HK.out | apply KeepBut.set_ | apply keep_drewN | apply keep_drew | apply keep_alloc | refine keep_far ?_ GW345.out _ | refine keep_far ?_ GW346.out _) | exact HK.out)) hk (.inl rfl)); have n3_ := zM (hb); have n4_ := zM (hi); clear BK345; clear BK346; clear HK; clear HB; clear HI0; have BK345 := n0_; have BK346 := n1_; have HK := n2_; have HB := n3_; have HI0 := n4_; clear n0_ n1_ n2_ n3_ n4_; (try clear hb); (try clear hb2); (try clear hk); (try clear hi)) | ((with_reducible refine gate_callee (f := 70) rfl ?_); refine goesL_ (some 56) rfl rfl Try.func70 (by kernel_rfl) rfl #[.pointer (some ⟨g, 0, none⟩), .int .i64 4] rfl (by (try simp only [List.map_toArray, List.map_cons, List.map_nil]); first | done | rfl | (simp only [List.length_drop, List.length_take]; rfl)) ?_; (with_reducible refine (spec_l20Rd_pick.calls kj3 g s0_0 t369 4 t370 t371 w0 _ ?side1 ?side2 A61.out).mono ?_); (case side1 => repeat (first | (with_reducible first | exact HI0.out | apply IsS111.alloc | apply IsS111.drewN | apply IsS111.drew | apply IsS111.set_1 | refine IsS111.far ?_ NB0_345.out _ | refine IsS111.far ?_ NB0_346.out _) | exact HI0.out)); (case side2 => repeat (first | (with_reducible first | exact HB.out | apply zU | apply zV | apply zW | refine zH ?_ (IsS111.ge HI0.out) | refine zH ?_ GE345.out | refine zH ?_ GE346.out) | exact HB.out)); rintro e w64 ⟨rfl, hi, hb, hk⟩; refine ⟨_, rfl, ?_⟩; have n0_ := zM (KeepBut.blk hk (g' := gb345) (o := .cells #[.int .i64 0, .int .i64 0, .string (⟨#[]⟩ : ByteArray)] 83 (0, 0)) (by (with_reducible repeat (first | refine zX ?_ _ | refine zY ?_ | refine zZ ?_ _)); exact BK345.out) NB345_0.out (by simp)); have n1_ := zM (KeepBut.blk hk (g' := gb346) (o := .cells #[.int .i64 x347000_3, .int .i64 x347001_3, .string x347002_3] 83 (0, 0)) (by (with_reducible repeat (first | refine zX ?_ _ | refine zY ?_ | refine zZ ?_ _)); exact BK346.out) NB346_0.out (by simp)); have n2_ := zM (KeepBut.trans (by repeat (first | (with_reducible first | exact HK.out | apply KeepBut.set_ | apply keep_drewN | apply keep_drew | apply keep_alloc | refine keep_far ?_ GW345.out _ | refine keep_far ?_ GW346.out _) | exact HK.out)) hk (.inl rfl)); have n3_ := zM (hb); have n4_ := zM (hi); clear BK345; clear BK346; clear HK; clear HB; clear HI0; have BK345 := n0_; have BK346 := n1_; have HK := n2_; have HB := n3_; have HI0 := n4_; clear n0_ n1_ n2_ n3_ n4_; (try clear hb); (try clear hb2); (try clear hk); (try clear hi); have hnb65 := NB346_345.out; have hnc65 := NB345_346.out; have hnb66 := NB346_0.out; have hnc66 := NB0_346.out; have hcz67_0 : w64.cell? ⟨gb346, 0, none⟩ = some (.int .i64 x347000_3) := (zK BK346.out 0).trans rfl; have hcz67_1 : w64.cell? ⟨gb346, 1, none⟩ = some (.int .i64 x347001_3) := (zK BK346.out 1).trans rfl; have hcz67_2 : w64.cell? ⟨gb346, 2, none⟩ = some (.string x347002_3) := (zK BK346.out 2).trans rfl; have hfz67_0 := zF BK346.out 0; have hfz67_1 := zF BK346.out 1; have hfz67_2 := zF BK346.out 2; have hnb68 := NB345_0.out; have hnc68 := NB0_345.out; have hcz69_0 : w64.cell? ⟨gb345, 0, none⟩ = some (.int .i64 0) := (zK BK345.out 0).trans rfl; have hcz69_1 : w64.cell? ⟨gb345, 1, none⟩ = some (.int .i64 0) := (zK BK345.out 1).trans rfl; have hcz69_2 : w64.cell? ⟨gb345, 2, none⟩ = some (.string (⟨#[]⟩ : ByteArray)) := (zK BK345.out 2).trans rfl; have hfz69_0 := zF BK345.out 0; have hfz69_1 := zF BK345.out 1; have hfz69_2 := zF BK345.out 2))
     refine bodyPost_ret (results_cell_row rfl _ _ gb345 83 #[.int .i64 x347000_3, .int .i64 10000, .string x347002_3] (0, 0) _ rfl (by (with_reducible repeat (first | refine zX ?_ _ | refine zY ?_ | refine zZ ?_ _)); refine blk_put (cs := #[.int .i64 x347000_3, .int .i64 10000, .string (⟨#[]⟩ : ByteArray)]) ?_ 2 _ rfl; (with_reducible repeat (first | refine zX ?_ _ | refine zY ?_ | refine zZ ?_ _)); refine blk_put (cs := #[.int .i64 x347000_3, .int .i64 0, .string (⟨#[]⟩ : ByteArray)]) ?_ 1 _ rfl; (with_reducible repeat (first | refine zX ?_ _ | refine zY ?_ | refine zZ ?_ _)); refine blk_put (cs := #[.int .i64 0, .int .i64 0, .string (⟨#[]⟩ : ByteArray)]) ?_ 0 _ rfl; (with_reducible repeat (first | refine zX ?_ _ | refine zY ?_ | refine zZ ?_ _)); refine blk_far ?_ NB345_346.out _; (with_reducible repeat (first | refine zX ?_ _ | refine zY ?_ | refine zZ ?_ _)); exact BK345.out) Try.underlying83 rfl (by kernel_rfl)) rfl ?_
     exact ⟨by first | rfl | (simp [errW_none, errW_some] <;> rfl) | (simp [*, errW_none, errW_some] <;> rfl), by repeat (first | (with_reducible first | exact HI0.out | apply IsS111.alloc | apply IsS111.drewN | apply IsS111.drew | apply IsS111.set_1 | refine IsS111.far ?_ NB0_345.out _ | refine IsS111.far ?_ NB0_346.out _) | exact HI0.out), by repeat (first | (with_reducible first | exact HB.out | apply zU | apply zV | apply zW | refine zH ?_ (IsS111.ge HI0.out) | refine zH ?_ GE345.out | refine zH ?_ GE346.out) | exact HB.out), by repeat (first | (with_reducible first | exact HK.out | apply KeepBut.set_ | apply keep_drewN | apply keep_drew | apply keep_alloc | refine keep_far ?_ GW345.out _ | refine keep_far ?_ GW346.out _) | exact HK.out)⟩
    ·
     rw [if_neg c62] at H
     have c62b0 : (t370 == 0) = false := beq_eq_false_iff_ne.mpr c62
     have c62b1 : (t370 != 0) = true := bne_iff_ne.mpr c62
     by_cases c70 : t370 = 1
     ·
      rw [if_pos c70] at H
      have c70b0 : (t370 == 1) = true := beq_iff_eq.mpr c70
      have c70b1 : (t370 != 1) = false := bne_eq_false_iff_eq.mpr c70
      clear c70
      by_cases c71 : x347002_3.size + 7 ≤ 9223372036854775807
      ·
       rw [if_pos c71] at H
       have c71b0 := eq_true c71
       have c71b1 : decide (x347002_3.size + 7 ≤ 9223372036854775807) = true := decide_eq_true c71
       try have c71b2 : (9223372036854775807 < x347002_3.size + 7) = False := eq_false (Nat.not_lt.2 c71)
       simp only [Option.some.injEq, Prod.mk.injEq] at H
       obtain ⟨rfl, rfl, rfl, rfl⟩ := H
       go_wp2_with (first | ((with_reducible refine gate_callee (f := 90) rfl ?_); refine goesL_ (some 54) rfl rfl Try.func90 (by kernel_rfl) rfl #[.pointer (some ⟨g, 0, none⟩), .int .i64 a1] rfl (by (try simp only [List.map_toArray, List.map_cons, List.map_nil]); first | done | rfl | (simp only [List.length_drop, List.length_take]; rfl)) ?_; (with_reducible refine (spec_l20Rd_odd.calls kj3 g s0_0 x1001_3 a1 true t369 w0 _ ?side1 ?side2 A59.out).mono ?_); (case side1 => repeat (first | (with_reducible first | exact HI0.out | apply IsS111.alloc | apply IsS111.drewN | apply IsS111.drew | apply IsS111.set_1 | refine IsS111.far ?_ NB0_345.out _ | refine IsS111.far ?_ NB0_346.out _) | exact HI0.out)); (case side2 => repeat (first | (with_reducible first | exact HB.out | apply zU | apply zV | apply zW | refine zH ?_ (IsS111.ge HI0.out) | refine zH ?_ GE345.out | refine zH ?_ GE346.out) | exact HB.out)); rintro e w72 ⟨rfl, hi, hb, hk⟩; refine ⟨_, rfl, ?_⟩; have n0_ := zM (KeepBut.blk hk (g' := gb345) (o := .cells #[.int .i64 0, .int .i64 0, .string (⟨#[]⟩ : ByteArray)] 83 (0, 0)) (by (with_reducible repeat (first | refine zX ?_ _ | refine zY ?_ | refine zZ ?_ _)); exact BK345.out) NB345_0.out (by simp)); have n1_ := zM (KeepBut.blk hk (g' := gb346) (o := .cells #[.int .i64 x347000_3, .int .i64 x347001_3, .string x347002_3] 83 (0, 0)) (by (with_reducible repeat (first | refine zX ?_ _ | refine zY ?_ | refine zZ ?_ _)); exact BK346.out) NB346_0.out (by simp)); have n2_ := zM (KeepBut.trans (by repeat (first | (with_reducible first | exact HK.out | apply KeepBut.set_ | apply keep_drewN | apply keep_drew | apply keep_alloc | refine keep_far ?_ GW345.out _ | refine keep_far ?_ GW346.out _) | exact HK.out)) hk (.inl rfl)); have n3_ := zM (hb); have n4_ := zM (hi); clear BK345; clear BK346; clear HK; clear HB; clear HI0; have BK345 := n0_; have BK346 := n1_; have HK := n2_; have HB := n3_; have HI0 := n4_; clear n0_ n1_ n2_ n3_ n4_; (try clear hb); (try clear hb2); (try clear hk); (try clear hi)) | ((with_reducible refine gate_callee (f := 70) rfl ?_); refine goesL_ (some 56) rfl rfl Try.func70 (by kernel_rfl) rfl #[.pointer (some ⟨g, 0, none⟩), .int .i64 4] rfl (by (try simp only [List.map_toArray, List.map_cons, List.map_nil]); first | done | rfl | (simp only [List.length_drop, List.length_take]; rfl)) ?_; (with_reducible refine (spec_l20Rd_pick.calls kj3 g s0_0 t369 4 t370 t371 w0 _ ?side1 ?side2 A61.out).mono ?_); (case side1 => repeat (first | (with_reducible first | exact HI0.out | apply IsS111.alloc | apply IsS111.drewN | apply IsS111.drew | apply IsS111.set_1 | refine IsS111.far ?_ NB0_345.out _ | refine IsS111.far ?_ NB0_346.out _) | exact HI0.out)); (case side2 => repeat (first | (with_reducible first | exact HB.out | apply zU | apply zV | apply zW | refine zH ?_ (IsS111.ge HI0.out) | refine zH ?_ GE345.out | refine zH ?_ GE346.out) | exact HB.out)); rintro e w73 ⟨rfl, hi, hb, hk⟩; refine ⟨_, rfl, ?_⟩; have n0_ := zM (KeepBut.blk hk (g' := gb345) (o := .cells #[.int .i64 0, .int .i64 0, .string (⟨#[]⟩ : ByteArray)] 83 (0, 0)) (by (with_reducible repeat (first | refine zX ?_ _ | refine zY ?_ | refine zZ ?_ _)); exact BK345.out) NB345_0.out (by simp)); have n1_ := zM (KeepBut.blk hk (g' := gb346) (o := .cells #[.int .i64 x347000_3, .int .i64 x347001_3, .string x347002_3] 83 (0, 0)) (by (with_reducible repeat (first | refine zX ?_ _ | refine zY ?_ | refine zZ ?_ _)); exact BK346.out) NB346_0.out (by simp)); have n2_ := zM (KeepBut.trans (by repeat (first | (with_reducible first | exact HK.out | apply KeepBut.set_ | apply keep_drewN | apply keep_drew | apply keep_alloc | refine keep_far ?_ GW345.out _ | refine keep_far ?_ GW346.out _) | exact HK.out)) hk (.inl rfl)); have n3_ := zM (hb); have n4_ := zM (hi); clear BK345; clear BK346; clear HK; clear HB; clear HI0; have BK345 := n0_; have BK346 := n1_; have HK := n2_; have HB := n3_; have HI0 := n4_; clear n0_ n1_ n2_ n3_ n4_; (try clear hb); (try clear hb2); (try clear hk); (try clear hi); have hnb74 := NB346_345.out; have hnc74 := NB345_346.out; have hnb75 := NB346_0.out; have hnc75 := NB0_346.out; have hcz76_0 : w73.cell? ⟨gb346, 0, none⟩ = some (.int .i64 x347000_3) := (zK BK346.out 0).trans rfl; have hcz76_1 : w73.cell? ⟨gb346, 1, none⟩ = some (.int .i64 x347001_3) := (zK BK346.out 1).trans rfl; have hcz76_2 : w73.cell? ⟨gb346, 2, none⟩ = some (.string x347002_3) := (zK BK346.out 2).trans rfl; have hfz76_0 := zF BK346.out 0; have hfz76_1 := zF BK346.out 1; have hfz76_2 := zF BK346.out 2; have hnb77 := NB345_0.out; have hnc77 := NB0_345.out; have hcz78_0 : w73.cell? ⟨gb345, 0, none⟩ = some (.int .i64 0) := (zK BK345.out 0).trans rfl; have hcz78_1 : w73.cell? ⟨gb345, 1, none⟩ = some (.int .i64 0) := (zK BK345.out 1).trans rfl; have hcz78_2 : w73.cell? ⟨gb345, 2, none⟩ = some (.string (⟨#[]⟩ : ByteArray)) := (zK BK345.out 2).trans rfl; have hfz78_0 := zF BK345.out 0; have hfz78_1 := zF BK345.out 1; have hfz78_2 := zF BK345.out 2))
       refine bodyPost_ret (results_cell_row rfl _ _ gb345 83 #[.int .i64 x347000_3, .int .i64 x347001_3, .string (x347002_3 ++ (⟨#[97, 98, 99, 100, 101, 102, 103]⟩ : ByteArray))] (0, 0) _ rfl (by (with_reducible repeat (first | refine zX ?_ _ | refine zY ?_ | refine zZ ?_ _)); refine blk_put (cs := #[.int .i64 x347000_3, .int .i64 x347001_3, .string (⟨#[]⟩ : ByteArray)]) ?_ 2 _ rfl; (with_reducible repeat (first | refine zX ?_ _ | refine zY ?_ | refine zZ ?_ _)); refine blk_put (cs := #[.int .i64 x347000_3, .int .i64 0, .string (⟨#[]⟩ : ByteArray)]) ?_ 1 _ rfl; (with_reducible repeat (first | refine zX ?_ _ | refine zY ?_ | refine zZ ?_ _)); refine blk_put (cs := #[.int .i64 0, .int .i64 0, .string (⟨#[]⟩ : ByteArray)]) ?_ 0 _ rfl; (with_reducible repeat (first | refine zX ?_ _ | refine zY ?_ | refine zZ ?_ _)); refine blk_far ?_ NB345_346.out _; (with_reducible repeat (first | refine zX ?_ _ | refine zY ?_ | refine zZ ?_ _)); exact BK345.out) Try.underlying83 rfl (by kernel_rfl)) rfl ?_
       exact ⟨by first | rfl | (simp [errW_none, errW_some] <;> rfl) | (simp [*, errW_none, errW_some] <;> rfl), by repeat (first | (with_reducible first | exact HI0.out | apply IsS111.alloc | apply IsS111.drewN | apply IsS111.drew | apply IsS111.set_1 | refine IsS111.far ?_ NB0_345.out _ | refine IsS111.far ?_ NB0_346.out _) | exact HI0.out), by repeat (first | (with_reducible first | exact HB.out | apply zU | apply zV | apply zW | refine zH ?_ (IsS111.ge HI0.out) | refine zH ?_ GE345.out | refine zH ?_ GE346.out) | exact HB.out), by repeat (first | (with_reducible first | exact HK.out | apply KeepBut.set_ | apply keep_drewN | apply keep_drew | apply keep_alloc | refine keep_far ?_ GW345.out _ | refine keep_far ?_ GW346.out _) | exact HK.out)⟩
      ·
       rw [if_neg c71] at H
       exact absurd H (by simp)
     ·
      rw [if_neg c70] at H
      have c70b0 : (t370 == 1) = false := beq_eq_false_iff_ne.mpr c70
      have c70b1 : (t370 != 1) = true := bne_iff_ne.mpr c70
      by_cases c79 : t370 = 2
      ·
       rw [if_pos c79] at H
       have c79b0 : (t370 == 2) = true := beq_iff_eq.mpr c79
       have c79b1 : (t370 != 2) = false := bne_eq_false_iff_eq.mpr c79
       clear c79
       replace H := Option.bind_eq_some_iff.mp H
       obtain ⟨⟨t372, t373⟩, A800, H⟩ := H
       replace H : (some (wrap64 (t372 - 1), x347001_3, x347002_3, t373)) = some (r1, r2, r3, r4) := H
       have A80 := zM A800
       clear A800
       simp only [Option.some.injEq, Prod.mk.injEq] at H
       obtain ⟨rfl, rfl, rfl, rfl⟩ := H
       go_wp2_with (first | ((with_reducible refine gate_callee (f := 90) rfl ?_); refine goesL_ (some 54) rfl rfl Try.func90 (by kernel_rfl) rfl #[.pointer (some ⟨g, 0, none⟩), .int .i64 a1] rfl (by (try simp only [List.map_toArray, List.map_cons, List.map_nil]); first | done | rfl | (simp only [List.length_drop, List.length_take]; rfl)) ?_; (with_reducible refine (spec_l20Rd_odd.calls kj3 g s0_0 x1001_3 a1 true t369 w0 _ ?side1 ?side2 A59.out).mono ?_); (case side1 => repeat (first | (with_reducible first | exact HI0.out | apply IsS111.alloc | apply IsS111.drewN | apply IsS111.drew | apply IsS111.set_1 | refine IsS111.far ?_ NB0_345.out _ | refine IsS111.far ?_ NB0_346.out _) | exact HI0.out)); (case side2 => repeat (first | (with_reducible first | exact HB.out | apply zU | apply zV | apply zW | refine zH ?_ (IsS111.ge HI0.out) | refine zH ?_ GE345.out | refine zH ?_ GE346.out) | exact HB.out)); rintro e w81 ⟨rfl, hi, hb, hk⟩; refine ⟨_, rfl, ?_⟩; have n0_ := zM (KeepBut.blk hk (g' := gb345) (o := .cells #[.int .i64 0, .int .i64 0, .string (⟨#[]⟩ : ByteArray)] 83 (0, 0)) (by (with_reducible repeat (first | refine zX ?_ _ | refine zY ?_ | refine zZ ?_ _)); exact BK345.out) NB345_0.out (by simp)); have n1_ := zM (KeepBut.blk hk (g' := gb346) (o := .cells #[.int .i64 x347000_3, .int .i64 x347001_3, .string x347002_3] 83 (0, 0)) (by (with_reducible repeat (first | refine zX ?_ _ | refine zY ?_ | refine zZ ?_ _)); exact BK346.out) NB346_0.out (by simp)); have n2_ := zM (KeepBut.trans (by repeat (first | (with_reducible first | exact HK.out | apply KeepBut.set_ | apply keep_drewN | apply keep_drew | apply keep_alloc | refine keep_far ?_ GW345.out _ | refine keep_far ?_ GW346.out _) | exact HK.out)) hk (.inl rfl)); have n3_ := zM (hb); have n4_ := zM (hi); clear BK345; clear BK346; clear HK; clear HB; clear HI0; have BK345 := n0_; have BK346 := n1_; have HK := n2_; have HB := n3_; have HI0 := n4_; clear n0_ n1_ n2_ n3_ n4_; (try clear hb); (try clear hb2); (try clear hk); (try clear hi)) | ((with_reducible refine gate_callee (f := 70) rfl ?_); refine goesL_ (some 56) rfl rfl Try.func70 (by kernel_rfl) rfl #[.pointer (some ⟨g, 0, none⟩), .int .i64 4] rfl (by (try simp only [List.map_toArray, List.map_cons, List.map_nil]); first | done | rfl | (simp only [List.length_drop, List.length_take]; rfl)) ?_; (with_reducible refine (spec_l20Rd_pick.calls kj3 g s0_0 t369 4 t370 t371 w0 _ ?side1 ?side2 A61.out).mono ?_); (case side1 => repeat (first | (with_reducible first | exact HI0.out | apply IsS111.alloc | apply IsS111.drewN | apply IsS111.drew | apply IsS111.set_1 | refine IsS111.far ?_ NB0_345.out _ | refine IsS111.far ?_ NB0_346.out _) | exact HI0.out)); (case side2 => repeat (first | (with_reducible first | exact HB.out | apply zU | apply zV | apply zW | refine zH ?_ (IsS111.ge HI0.out) | refine zH ?_ GE345.out | refine zH ?_ GE346.out) | exact HB.out)); rintro e w82 ⟨rfl, hi, hb, hk⟩; refine ⟨_, rfl, ?_⟩; have n0_ := zM (KeepBut.blk hk (g' := gb345) (o := .cells #[.int .i64 0, .int .i64 0, .string (⟨#[]⟩ : ByteArray)] 83 (0, 0)) (by (with_reducible repeat (first | refine zX ?_ _ | refine zY ?_ | refine zZ ?_ _)); exact BK345.out) NB345_0.out (by simp)); have n1_ := zM (KeepBut.blk hk (g' := gb346) (o := .cells #[.int .i64 x347000_3, .int .i64 x347001_3, .string x347002_3] 83 (0, 0)) (by (with_reducible repeat (first | refine zX ?_ _ | refine zY ?_ | refine zZ ?_ _)); exact BK346.out) NB346_0.out (by simp)); have n2_ := zM (KeepBut.trans (by repeat (first | (with_reducible first | exact HK.out | apply KeepBut.set_ | apply keep_drewN | apply keep_drew | apply keep_alloc | refine keep_far ?_ GW345.out _ | refine keep_far ?_ GW346.out _) | exact HK.out)) hk (.inl rfl)); have n3_ := zM (hb); have n4_ := zM (hi); clear BK345; clear BK346; clear HK; clear HB; clear HI0; have BK345 := n0_; have BK346 := n1_; have HK := n2_; have HB := n3_; have HI0 := n4_; clear n0_ n1_ n2_ n3_ n4_; (try clear hb); (try clear hb2); (try clear hk); (try clear hi)) | ((with_reducible refine gate_callee (f := 70) rfl ?_); refine goesL_ (some 73) rfl rfl Try.func70 (by kernel_rfl) rfl #[.pointer (some ⟨g, 0, none⟩), .int .i64 7] rfl (by (try simp only [List.map_toArray, List.map_cons, List.map_nil]); first | done | rfl | (simp only [List.length_drop, List.length_take]; rfl)) ?_; (with_reducible refine (spec_l20Rd_pick.calls kj3 g s0_0 t371 7 t372 t373 w0 _ ?side1 ?side2 A80.out).mono ?_); (case side1 => repeat (first | (with_reducible first | exact HI0.out | apply IsS111.alloc | apply IsS111.drewN | apply IsS111.drew | apply IsS111.set_1 | refine IsS111.far ?_ NB0_345.out _ | refine IsS111.far ?_ NB0_346.out _) | exact HI0.out)); (case side2 => repeat (first | (with_reducible first | exact HB.out | apply zU | apply zV | apply zW | refine zH ?_ (IsS111.ge HI0.out) | refine zH ?_ GE345.out | refine zH ?_ GE346.out) | exact HB.out)); rintro e w83 ⟨rfl, hi, hb, hk⟩; refine ⟨_, rfl, ?_⟩; have n0_ := zM (KeepBut.blk hk (g' := gb345) (o := .cells #[.int .i64 0, .int .i64 0, .string (⟨#[]⟩ : ByteArray)] 83 (0, 0)) (by (with_reducible repeat (first | refine zX ?_ _ | refine zY ?_ | refine zZ ?_ _)); exact BK345.out) NB345_0.out (by simp)); have n1_ := zM (KeepBut.blk hk (g' := gb346) (o := .cells #[.int .i64 x347000_3, .int .i64 x347001_3, .string x347002_3] 83 (0, 0)) (by (with_reducible repeat (first | refine zX ?_ _ | refine zY ?_ | refine zZ ?_ _)); exact BK346.out) NB346_0.out (by simp)); have n2_ := zM (KeepBut.trans (by repeat (first | (with_reducible first | exact HK.out | apply KeepBut.set_ | apply keep_drewN | apply keep_drew | apply keep_alloc | refine keep_far ?_ GW345.out _ | refine keep_far ?_ GW346.out _) | exact HK.out)) hk (.inl rfl)); have n3_ := zM (hb); have n4_ := zM (hi); clear BK345; clear BK346; clear HK; clear HB; clear HI0; have BK345 := n0_; have BK346 := n1_; have HK := n2_; have HB := n3_; have HI0 := n4_; clear n0_ n1_ n2_ n3_ n4_; (try clear hb); (try clear hb2); (try clear hk); (try clear hi); have hnb84 := NB346_345.out; have hnc84 := NB345_346.out; have hnb85 := NB346_0.out; have hnc85 := NB0_346.out; have hcz86_0 : w83.cell? ⟨gb346, 0, none⟩ = some (.int .i64 x347000_3) := (zK BK346.out 0).trans rfl; have hcz86_1 : w83.cell? ⟨gb346, 1, none⟩ = some (.int .i64 x347001_3) := (zK BK346.out 1).trans rfl; have hcz86_2 : w83.cell? ⟨gb346, 2, none⟩ = some (.string x347002_3) := (zK BK346.out 2).trans rfl; have hfz86_0 := zF BK346.out 0; have hfz86_1 := zF BK346.out 1; have hfz86_2 := zF BK346.out 2; have hnb87 := NB345_0.out; have hnc87 := NB0_345.out; have hcz88_0 : w83.cell? ⟨gb345, 0, none⟩ = some (.int .i64 0) := (zK BK345.out 0).trans rfl; have hcz88_1 : w83.cell? ⟨gb345, 1, none⟩ = some (.int .i64 0) := (zK BK345.out 1).trans rfl; have hcz88_2 : w83.cell? ⟨gb345, 2, none⟩ = some (.string (⟨#[]⟩ : ByteArray)) := (zK BK345.out 2).trans rfl; have hfz88_0 := zF BK345.out 0; have hfz88_1 := zF BK345.out 1; have hfz88_2 := zF BK345.out 2))
       refine bodyPost_ret (results_cell_row rfl _ _ gb345 83 #[.int .i64 (wrap64 (t372 - 1)), .int .i64 x347001_3, .string x347002_3] (0, 0) _ rfl (by (with_reducible repeat (first | refine zX ?_ _ | refine zY ?_ | refine zZ ?_ _)); refine blk_put (cs := #[.int .i64 (wrap64 (t372 - 1)), .int .i64 x347001_3, .string (⟨#[]⟩ : ByteArray)]) ?_ 2 _ rfl; (with_reducible repeat (first | refine zX ?_ _ | refine zY ?_ | refine zZ ?_ _)); refine blk_put (cs := #[.int .i64 (wrap64 (t372 - 1)), .int .i64 0, .string (⟨#[]⟩ : ByteArray)]) ?_ 1 _ rfl; (with_reducible repeat (first | refine zX ?_ _ | refine zY ?_ | refine zZ ?_ _)); refine blk_put (cs := #[.int .i64 0, .int .i64 0, .string (⟨#[]⟩ : ByteArray)]) ?_ 0 _ rfl; (with_reducible repeat (first | refine zX ?_ _ | refine zY ?_ | refine zZ ?_ _)); refine blk_far ?_ NB345_346.out _; (with_reducible repeat (first | refine zX ?_ _ | refine zY ?_ | refine zZ ?_ _)); exact BK345.out) Try.underlying83 rfl (by kernel_rfl)) rfl ?_
       exact ⟨by first | rfl | (simp [errW_none, errW_some] <;> rfl) | (simp [*, errW_none, errW_some] <;> rfl), by repeat (first | (with_reducible first | exact HI0.out | apply IsS111.alloc | apply IsS111.drewN | apply IsS111.drew | apply IsS111.set_1 | refine IsS111.far ?_ NB0_345.out _ | refine IsS111.far ?_ NB0_346.out _) | exact HI0.out), by repeat (first | (with_reducible first | exact HB.out | apply zU | apply zV | apply zW | refine zH ?_ (IsS111.ge HI0.out) | refine zH ?_ GE345.out | refine zH ?_ GE346.out) | exact HB.out), by repeat (first | (with_reducible first | exact HK.out | apply KeepBut.set_ | apply keep_drewN | apply keep_drew | apply keep_alloc | refine keep_far ?_ GW345.out _ | refine keep_far ?_ GW346.out _) | exact HK.out)⟩
      ·
       rw [if_neg c79] at H
       have c79b0 : (t370 == 2) = false := beq_eq_false_iff_ne.mpr c79
       have c79b1 : (t370 != 2) = true := bne_iff_ne.mpr c79
       by_cases c89 : x347002_3.size + 1 ≤ 9223372036854775807
       ·
        rw [if_pos c89] at H
        have c89b0 := eq_true c89
        have c89b1 : decide (x347002_3.size + 1 ≤ 9223372036854775807) = true := decide_eq_true c89
        try have c89b2 : (9223372036854775807 < x347002_3.size + 1) = False := eq_false (Nat.not_lt.2 c89)
        simp only [Option.some.injEq, Prod.mk.injEq] at H
        obtain ⟨rfl, rfl, rfl, rfl⟩ := H
        go_wp2_with (first | ((with_reducible refine gate_callee (f := 90) rfl ?_); refine goesL_ (some 54) rfl rfl Try.func90 (by kernel_rfl) rfl #[.pointer (some ⟨g, 0, none⟩), .int .i64 a1] rfl (by (try simp only [List.map_toArray, List.map_cons, List.map_nil]); first | done | rfl | (simp only [List.length_drop, List.length_take]; rfl)) ?_; (with_reducible refine (spec_l20Rd_odd.calls kj3 g s0_0 x1001_3 a1 true t369 w0 _ ?side1 ?side2 A59.out).mono ?_); (case side1 => repeat (first | (with_reducible first | exact HI0.out | apply IsS111.alloc | apply IsS111.drewN | apply IsS111.drew | apply IsS111.set_1 | refine IsS111.far ?_ NB0_345.out _ | refine IsS111.far ?_ NB0_346.out _) | exact HI0.out)); (case side2 => repeat (first | (with_reducible first | exact HB.out | apply zU | apply zV | apply zW | refine zH ?_ (IsS111.ge HI0.out) | refine zH ?_ GE345.out | refine zH ?_ GE346.out) | exact HB.out)); rintro e w90 ⟨rfl, hi, hb, hk⟩; refine ⟨_, rfl, ?_⟩; have n0_ := zM (KeepBut.blk hk (g' := gb345) (o := .cells #[.int .i64 0, .int .i64 0, .string (⟨#[]⟩ : ByteArray)] 83 (0, 0)) (by (with_reducible repeat (first | refine zX ?_ _ | refine zY ?_ | refine zZ ?_ _)); exact BK345.out) NB345_0.out (by simp)); have n1_ := zM (KeepBut.blk hk (g' := gb346) (o := .cells #[.int .i64 x347000_3, .int .i64 x347001_3, .string x347002_3] 83 (0, 0)) (by (with_reducible repeat (first | refine zX ?_ _ | refine zY ?_ | refine zZ ?_ _)); exact BK346.out) NB346_0.out (by simp)); have n2_ := zM (KeepBut.trans (by repeat (first | (with_reducible first | exact HK.out | apply KeepBut.set_ | apply keep_drewN | apply keep_drew | apply keep_alloc | refine keep_far ?_ GW345.out _ | refine keep_far ?_ GW346.out _) | exact HK.out)) hk (.inl rfl)); have n3_ := zM (hb); have n4_ := zM (hi); clear BK345; clear BK346; clear HK; clear HB; clear HI0; have BK345 := n0_; have BK346 := n1_; have HK := n2_; have HB := n3_; have HI0 := n4_; clear n0_ n1_ n2_ n3_ n4_; (try clear hb); (try clear hb2); (try clear hk); (try clear hi)) | ((with_reducible refine gate_callee (f := 70) rfl ?_); refine goesL_ (some 56) rfl rfl Try.func70 (by kernel_rfl) rfl #[.pointer (some ⟨g, 0, none⟩), .int .i64 4] rfl (by (try simp only [List.map_toArray, List.map_cons, List.map_nil]); first | done | rfl | (simp only [List.length_drop, List.length_take]; rfl)) ?_; (with_reducible refine (spec_l20Rd_pick.calls kj3 g s0_0 t369 4 t370 t371 w0 _ ?side1 ?side2 A61.out).mono ?_); (case side1 => repeat (first | (with_reducible first | exact HI0.out | apply IsS111.alloc | apply IsS111.drewN | apply IsS111.drew | apply IsS111.set_1 | refine IsS111.far ?_ NB0_345.out _ | refine IsS111.far ?_ NB0_346.out _) | exact HI0.out)); (case side2 => repeat (first | (with_reducible first | exact HB.out | apply zU | apply zV | apply zW | refine zH ?_ (IsS111.ge HI0.out) | refine zH ?_ GE345.out | refine zH ?_ GE346.out) | exact HB.out)); rintro e w91 ⟨rfl, hi, hb, hk⟩; refine ⟨_, rfl, ?_⟩; have n0_ := zM (KeepBut.blk hk (g' := gb345) (o := .cells #[.int .i64 0, .int .i64 0, .string (⟨#[]⟩ : ByteArray)] 83 (0, 0)) (by (with_reducible repeat (first | refine zX ?_ _ | refine zY ?_ | refine zZ ?_ _)); exact BK345.out) NB345_0.out (by simp)); have n1_ := zM (KeepBut.blk hk (g' := gb346) (o := .cells #[.int .i64 x347000_3, .int .i64 x347001_3, .string x347002_3] 83 (0, 0)) (by (with_reducible repeat (first | refine zX ?_ _ | refine zY ?_ | refine zZ ?_ _)); exact BK346.out) NB346_0.out (by simp)); have n2_ := zM (KeepBut.trans (by repeat (first | (with_reducible first | exact HK.out | apply KeepBut.set_ | apply keep_drewN | apply keep_drew | apply keep_alloc | refine keep_far ?_ GW345.out _ | refine keep_far ?_ GW346.out _) | exact HK.out)) hk (.inl rfl)); have n3_ := zM (hb); have n4_ := zM (hi); clear BK345; clear BK346; clear HK; clear HB; clear HI0; have BK345 := n0_; have BK346 := n1_; have HK := n2_; have HB := n3_; have HI0 := n4_; clear n0_ n1_ n2_ n3_ n4_; (try clear hb); (try clear hb2); (try clear hk); (try clear hi); have hnb92 := NB346_345.out; have hnc92 := NB345_346.out; have hnb93 := NB346_0.out; have hnc93 := NB0_346.out; have hcz94_0 : w91.cell? ⟨gb346, 0, none⟩ = some (.int .i64 x347000_3) := (zK BK346.out 0).trans rfl; have hcz94_1 : w91.cell? ⟨gb346, 1, none⟩ = some (.int .i64 x347001_3) := (zK BK346.out 1).trans rfl; have hcz94_2 : w91.cell? ⟨gb346, 2, none⟩ = some (.string x347002_3) := (zK BK346.out 2).trans rfl; have hfz94_0 := zF BK346.out 0; have hfz94_1 := zF BK346.out 1; have hfz94_2 := zF BK346.out 2; have hnb95 := NB345_0.out; have hnc95 := NB0_345.out; have hcz96_0 : w91.cell? ⟨gb345, 0, none⟩ = some (.int .i64 0) := (zK BK345.out 0).trans rfl; have hcz96_1 : w91.cell? ⟨gb345, 1, none⟩ = some (.int .i64 0) := (zK BK345.out 1).trans rfl; have hcz96_2 : w91.cell? ⟨gb345, 2, none⟩ = some (.string (⟨#[]⟩ : ByteArray)) := (zK BK345.out 2).trans rfl; have hfz96_0 := zF BK345.out 0; have hfz96_1 := zF BK345.out 1; have hfz96_2 := zF BK345.out 2))
        refine bodyPost_ret (results_cell_row rfl _ _ gb345 83 #[.int .i64 x347000_3, .int .i64 x347001_3, .string (x347002_3 ++ (⟨#[65]⟩ : ByteArray))] (0, 0) _ rfl (by (with_reducible repeat (first | refine zX ?_ _ | refine zY ?_ | refine zZ ?_ _)); refine blk_put (cs := #[.int .i64 x347000_3, .int .i64 x347001_3, .string (⟨#[]⟩ : ByteArray)]) ?_ 2 _ rfl; (with_reducible repeat (first | refine zX ?_ _ | refine zY ?_ | refine zZ ?_ _)); refine blk_put (cs := #[.int .i64 x347000_3, .int .i64 0, .string (⟨#[]⟩ : ByteArray)]) ?_ 1 _ rfl; (with_reducible repeat (first | refine zX ?_ _ | refine zY ?_ | refine zZ ?_ _)); refine blk_put (cs := #[.int .i64 0, .int .i64 0, .string (⟨#[]⟩ : ByteArray)]) ?_ 0 _ rfl; (with_reducible repeat (first | refine zX ?_ _ | refine zY ?_ | refine zZ ?_ _)); refine blk_far ?_ NB345_346.out _; (with_reducible repeat (first | refine zX ?_ _ | refine zY ?_ | refine zZ ?_ _)); exact BK345.out) Try.underlying83 rfl (by kernel_rfl)) rfl ?_
        exact ⟨by first | rfl | (simp [errW_none, errW_some] <;> rfl) | (simp [*, errW_none, errW_some] <;> rfl), by repeat (first | (with_reducible first | exact HI0.out | apply IsS111.alloc | apply IsS111.drewN | apply IsS111.drew | apply IsS111.set_1 | refine IsS111.far ?_ NB0_345.out _ | refine IsS111.far ?_ NB0_346.out _) | exact HI0.out), by repeat (first | (with_reducible first | exact HB.out | apply zU | apply zV | apply zW | refine zH ?_ (IsS111.ge HI0.out) | refine zH ?_ GE345.out | refine zH ?_ GE346.out) | exact HB.out), by repeat (first | (with_reducible first | exact HK.out | apply KeepBut.set_ | apply keep_drewN | apply keep_drew | apply keep_alloc | refine keep_far ?_ GW345.out _ | refine keep_far ?_ GW346.out _) | exact HK.out)⟩
       ·
        rw [if_neg c89] at H
        exact absurd H (by simp)
   ·
    replace c60 := Bool.eq_false_iff.mpr c60
    subst c60
    have H1 : (some (x347000_3, x347001_3, x347002_3, t369)) = some (r1, r2, r3, r4) := by rw [if_neg (show ¬ (false = true) by decide)] at H; exact H
    clear H
    have H := H1
    clear H1
    simp only [Option.some.injEq, Prod.mk.injEq] at H
    obtain ⟨rfl, rfl, rfl, rfl⟩ := H
    go_wp2_with (first | ((with_reducible refine gate_callee (f := 90) rfl ?_); refine goesL_ (some 54) rfl rfl Try.func90 (by kernel_rfl) rfl #[.pointer (some ⟨g, 0, none⟩), .int .i64 a1] rfl (by (try simp only [List.map_toArray, List.map_cons, List.map_nil]); first | done | rfl | (simp only [List.length_drop, List.length_take]; rfl)) ?_; (with_reducible refine (spec_l20Rd_odd.calls kj3 g s0_0 x1001_3 a1 false t369 w0 _ ?side1 ?side2 A59.out).mono ?_); (case side1 => repeat (first | (with_reducible first | exact HI0.out | apply IsS111.alloc | apply IsS111.drewN | apply IsS111.drew | apply IsS111.set_1 | refine IsS111.far ?_ NB0_345.out _ | refine IsS111.far ?_ NB0_346.out _) | exact HI0.out)); (case side2 => repeat (first | (with_reducible first | exact HB.out | apply zU | apply zV | apply zW | refine zH ?_ (IsS111.ge HI0.out) | refine zH ?_ GE345.out | refine zH ?_ GE346.out) | exact HB.out)); rintro e w97 ⟨rfl, hi, hb, hk⟩; refine ⟨_, rfl, ?_⟩; have n0_ := zM (KeepBut.blk hk (g' := gb345) (o := .cells #[.int .i64 0, .int .i64 0, .string (⟨#[]⟩ : ByteArray)] 83 (0, 0)) (by (with_reducible repeat (first | refine zX ?_ _ | refine zY ?_ | refine zZ ?_ _)); exact BK345.out) NB345_0.out (by simp)); have n1_ := zM (KeepBut.blk hk (g' := gb346) (o := .cells #[.int .i64 x347000_3, .int .i64 x347001_3, .string x347002_3] 83 (0, 0)) (by (with_reducible repeat (first | refine zX ?_ _ | refine zY ?_ | refine zZ ?_ _)); exact BK346.out) NB346_0.out (by simp)); have n2_ := zM (KeepBut.trans (by repeat (first | (with_reducible first | exact HK.out | apply KeepBut.set_ | apply keep_drewN | apply keep_drew | apply keep_alloc | refine keep_far ?_ GW345.out _ | refine keep_far ?_ GW346.out _) | exact HK.out)) hk (.inl rfl)); have n3_ := zM (hb); have n4_ := zM (hi); clear BK345; clear BK346; clear HK; clear HB; clear HI0; have BK345 := n0_; have BK346 := n1_; have HK := n2_; have HB := n3_; have HI0 := n4_; clear n0_ n1_ n2_ n3_ n4_; (try clear hb); (try clear hb2); (try clear hk); (try clear hi); have hnb98 := NB346_345.out; have hnc98 := NB345_346.out; have hnb99 := NB346_0.out; have hnc99 := NB0_346.out; have hcz100_0 : w97.cell? ⟨gb346, 0, none⟩ = some (.int .i64 x347000_3) := (zK BK346.out 0).trans rfl; have hcz100_1 : w97.cell? ⟨gb346, 1, none⟩ = some (.int .i64 x347001_3) := (zK BK346.out 1).trans rfl; have hcz100_2 : w97.cell? ⟨gb346, 2, none⟩ = some (.string x347002_3) := (zK BK346.out 2).trans rfl; have hfz100_0 := zF BK346.out 0; have hfz100_1 := zF BK346.out 1; have hfz100_2 := zF BK346.out 2; have hnb101 := NB345_0.out; have hnc101 := NB0_345.out; have hcz102_0 : w97.cell? ⟨gb345, 0, none⟩ = some (.int .i64 0) := (zK BK345.out 0).trans rfl; have hcz102_1 : w97.cell? ⟨gb345, 1, none⟩ = some (.int .i64 0) := (zK BK345.out 1).trans rfl; have hcz102_2 : w97.cell? ⟨gb345, 2, none⟩ = some (.string (⟨#[]⟩ : ByteArray)) := (zK BK345.out 2).trans rfl; have hfz102_0 := zF BK345.out 0; have hfz102_1 := zF BK345.out 1; have hfz102_2 := zF BK345.out 2))
    refine bodyPost_ret (results_cell_row rfl _ _ gb345 83 #[.int .i64 x347000_3, .int .i64 x347001_3, .string x347002_3] (0, 0) _ rfl (by (with_reducible repeat (first | refine zX ?_ _ | refine zY ?_ | refine zZ ?_ _)); refine blk_put (cs := #[.int .i64 x347000_3, .int .i64 x347001_3, .string (⟨#[]⟩ : ByteArray)]) ?_ 2 _ rfl; (with_reducible repeat (first | refine zX ?_ _ | refine zY ?_ | refine zZ ?_ _)); refine blk_put (cs := #[.int .i64 x347000_3, .int .i64 0, .string (⟨#[]⟩ : ByteArray)]) ?_ 1 _ rfl; (with_reducible repeat (first | refine zX ?_ _ | refine zY ?_ | refine zZ ?_ _)); refine blk_put (cs := #[.int .i64 0, .int .i64 0, .string (⟨#[]⟩ : ByteArray)]) ?_ 0 _ rfl; (with_reducible repeat (first | refine zX ?_ _ | refine zY ?_ | refine zZ ?_ _)); exact BK345.out) Try.underlying83 rfl (by kernel_rfl)) rfl ?_
    exact ⟨by first | rfl | (simp [errW_none, errW_some] <;> rfl) | (simp [*, errW_none, errW_some] <;> rfl), by repeat (first | (with_reducible first | exact HI0.out | apply IsS111.alloc | apply IsS111.drewN | apply IsS111.drew | apply IsS111.set_1 | refine IsS111.far ?_ NB0_345.out _ | refine IsS111.far ?_ NB0_346.out _) | exact HI0.out), by repeat (first | (with_reducible first | exact HB.out | apply zU | apply zV | apply zW | refine zH ?_ (IsS111.ge HI0.out) | refine zH ?_ GE345.out | refine zH ?_ GE346.out) | exact HB.out), by repeat (first | (with_reducible first | exact HK.out | apply KeepBut.set_ | apply keep_drewN | apply keep_drew | apply keep_alloc | refine keep_far ?_ GW345.out _ | refine keep_far ?_ GW346.out _) | exact HK.out)⟩
end

end Go.Proofs.Ytalhkihppcjanaa.X
