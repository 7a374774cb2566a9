/- Plain functions for the Go functions of this seat, and proofs that each call answers as its plain function does; made by this session's program over the kit's printer. -/
import Derived.Test.YtdgikheibcmcjaaUX0
import Derived.Test.YtdgikheibcmcjaaZFnValueFrom5
namespace Go.Proofs.Ytdgikheibcmcjaa.X
open Go.RowKit Go.Proofs.YtdgikheibcmcjaaV.PrintWords Go.Proofs.YtdgikheibcmcjaaV.PrintLast Go.Proofs.YtdgikheibcmcjaaV.PrintMore
attribute [local go_sem] max2_int min2_int max_two min_two max_three min_three max_four min_four   -- for this text's walks alone
set_option linter.unusedVariables false
set_option linter.unusedSimpArgs false

open Go.Proofs.YtdgikheibcmcjaaV.PrintWords renaming below_alloc → zU, pw_below_drewN → zV, below_drew1 → zW, blk_drewN → zX, blk_drew → zY, blk_alloc → zZ, blk_frozen → zF, blk_cell → zK, below_step → zG, below_set → zH, below_size → zI, blk_below → zJ
open Go.Proofs.YtdgikheibcmcjaaV.PrintWords.Kd renaming R_alloc → zR, R_drewN → zS, R_drew → zT, C_alloc → zQ, C_drewN → zO, C_drew → zP
section
/-! ### spec_l20Value: function 55 -/
mutual
def spec_l20Value.j3 : Nat → Int → List Int → Int → Int → Int → ByteArray → Option (Int × Int × ByteArray × Int)
 | 0, _, _, _, _, _, _ => none
 | k + 1, x1, x1000, x1001, x302000, x302001, x302002 => (spec_l20Rd_odd.f k x1000 x1001 x1).bind fun bt323 => (if bt323.1 = true then ((spec_l20Rd_pick.f k x1000 bt323.2 4).bind fun bt325 => (if bt325.1 = 0 then (some (x302000, 10000, x302002, bt325.2)) else (if bt325.1 = 1 then (if x302002.size + 7 ≤ 9223372036854775807 then (some (x302000, x302001, x302002 ++ (⟨#[97, 98, 99, 100, 101, 102, 103]⟩ : ByteArray), bt325.2)) else (none)) else (if bt325.1 = 2 then ((spec_l20Rd_pick.f k x1000 bt325.2 7).bind fun bt327 => (some (wrap64 (bt327.1 - 1), x302001, x302002, bt327.2))) else (if x302002.size + 1 ≤ 9223372036854775807 then (some (x302000, x302001, x302002 ++ (⟨#[65]⟩ : ByteArray), bt325.2)) else (none)))))) else (some (x302000, x302001, x302002, bt323.2)))
def spec_l20Value.j0 : Nat → Int → Int → Bool → List Int → Int → Option (Int × Int × ByteArray × Int)
 | 0, _, _, _, _, _ => none
 | k + 1, x1, x9, x15, x1000, x1001 => if x15 = true then ((spec_l20Rd_pick.f k x1000 x1001 7).bind fun bt304 => ((spec_l20Rd_pick.f k x1000 bt304.2 8).bind fun bt306 => (if bt306.1 = 0 then ((some (([9999, (-9999), 255, 256, (-256)] : List Int) : List Int)).bind fun y308 => ((spec_l20Rd_pick.f k x1000 bt306.2 5).bind fun bt311 => (if 0 ≤ bt311.1 then (if bt311.1 < (y308.length : Int) then (spec_l20Value.j3 k x1 x1000 bt311.2 1 (rd y308 bt311.1) (⟨#[]⟩ : ByteArray)) else (none)) else (none)))) else (spec_l20Value.j3 k x1 x1000 bt306.2 1 (wrap64 (bt304.1 - 3)) (⟨#[]⟩ : ByteArray))))) else (if x9 = 4 then (spec_l20Value.j1 k x1 (x9 == 4) x1000 x1001) else (spec_l20Value.j1 k x1 (x9 == 5) x1000 x1001))
def spec_l20Value.j1 : Nat → Int → Bool → List Int → Int → Option (Int × Int × ByteArray × Int)
 | 0, _, _, _, _ => none
 | k + 1, x1, x32, x1000, x1001 => if x32 = true then ((spec_l20Rd_pick.f k x1000 x1001 4).bind fun bt314 => (spec_l20Value.l0 k x1 bt314.1 x1000 bt314.2 2 0 (⟨#[]⟩ : ByteArray))) else ((spec_l20Rd_pick.f k x1000 x1001 2).bind fun bt321 => (spec_l20Value.j3 k x1 x1000 bt321.2 3 bt321.1 (⟨#[]⟩ : ByteArray)))
def spec_l20Value.l0 : Nat → Int → Int → List Int → Int → Int → Int → ByteArray → Option (Int × Int × ByteArray × Int)
 | 0, _, _, _, _, _, _, _ => none
 | k + 1, x1, x6, x1000, x1001, x302000, x302001, x302002 => if x6 > 0 then ((spec_l20Rd_pick.f k x1000 x1001 3).bind fun bt316 => ((some (([(wrap64 (97 + bt316.1)) % 256] : List Int) : List Int)).bind fun y318 => (if x302002.size + (strOfNums y318).size ≤ 9223372036854775807 then (spec_l20Value.l0 k x1 (wrap64 (x6 - 1)) x1000 bt316.2 x302000 x302001 (x302002 ++ (strOfNums y318))) else (none)))) else (spec_l20Value.j3 k x1 x1000 x1001 x302000 x302001 x302002)
end
def spec_l20Value.f (k : Nat) (s0_0 : List Int) (s0_1 : Int) (a1 : Int) : Option (Int × Int × ByteArray × Int) := (spec_l20Rd_pick.f k s0_0 s0_1 7).bind fun bt302 => (if bt302.1 = 0 then (spec_l20Value.j3 k a1 s0_0 bt302.2 0 0 (⟨#[]⟩ : ByteArray)) else (if bt302.1 = 1 then (spec_l20Value.j0 k a1 bt302.1 (bt302.1 == 1) s0_0 bt302.2) else (if bt302.1 = 2 then (spec_l20Value.j0 k a1 bt302.1 (bt302.1 == 2) s0_0 bt302.2) else (spec_l20Value.j0 k a1 bt302.1 (bt302.1 == 3) s0_0 bt302.2))))
theorem spec_l20Value.mono_l : ∀ k, (∀ y0 y1 y2 y3 y4 y5, LeO (spec_l20Value.j3 k y0 y1 y2 y3 y4 y5) (spec_l20Value.j3 (k + 1) y0 y1 y2 y3 y4 y5)) ∧ (∀ y0 y1 y2 y3 y4, LeO (spec_l20Value.j0 k y0 y1 y2 y3 y4) (spec_l20Value.j0 (k + 1) y0 y1 y2 y3 y4)) ∧ (∀ y0 y1 y2 y3, LeO (spec_l20Value.j1 k y0 y1 y2 y3) (spec_l20Value.j1 (k + 1) y0 y1 y2 y3)) ∧ (∀ y0 y1 y2 y3 y4 y5 y6, LeO (spec_l20Value.l0 k y0 y1 y2 y3 y4 y5 y6) (spec_l20Value.l0 (k + 1) y0 y1 y2 y3 y4 y5 y6))
 | 0 => ⟨fun _ _ _ _ _ _ r h => by simp [spec_l20Value.j3] at h, fun _ _ _ _ _ r h => by simp [spec_l20Value.j0] at h, fun _ _ _ _ r h => by simp [spec_l20Value.j1] at h, fun _ _ _ _ _ _ _ r h => by simp [spec_l20Value.l0] at h⟩
 | k + 1 => by
  obtain ⟨ih0, ih1, ih2, ih3⟩ := spec_l20Value.mono_l k
  refine ⟨?_, ?_, ?_, ?_⟩
  ·
   intro y0 y1 y2 y3 y4 y5
   unfold spec_l20Value.j3
   repeat' first
   | (with_reducible exact ih0 _ _ _ _ _ _)
   | (with_reducible exact ih1 _ _ _ _ _)
   | (with_reducible exact ih2 _ _ _ _)
   | (with_reducible exact ih3 _ _ _ _ _ _ _)
   | (with_reducible exact spec_l20Rd_odd.mono _ _ _ _)
   | (with_reducible exact spec_l20Rd_pick.mono _ _ _ _)
   | (with_reducible exact LeO.refl _)
   | (with_reducible exact LeO.none _)
   | (with_reducible refine LeO.ite ?_ ?_)
   | (with_reducible refine LeO.bind ?_ (fun _ => ?_))
   | exact ih0 _ _ _ _ _ _
   | exact ih1 _ _ _ _ _
   | exact ih2 _ _ _ _
   | exact ih3 _ _ _ _ _ _ _
   | exact spec_l20Rd_odd.mono _ _ _ _
   | exact spec_l20Rd_pick.mono _ _ _ _
   | exact LeO.none _
   | refine LeO.ite ?_ ?_
   | refine LeO.bind ?_ (fun _ => ?_)
  ·
   intro y0 y1 y2 y3 y4
   unfold spec_l20Value.j0
   repeat' first
   | (with_reducible exact ih0 _ _ _ _ _ _)
   | (with_reducible exact ih1 _ _ _ _ _)
   | (with_reducible exact ih2 _ _ _ _)
   | (with_reducible exact ih3 _ _ _ _ _ _ _)
   | (with_reducible exact spec_l20Rd_odd.mono _ _ _ _)
   | (with_reducible exact spec_l20Rd_pick.mono _ _ _ _)
   | (with_reducible exact LeO.refl _)
   | (with_reducible exact LeO.none _)
   | (with_reducible refine LeO.ite ?_ ?_)
   | (with_reducible refine LeO.bind ?_ (fun _ => ?_))
   | exact ih0 _ _ _ _ _ _
   | exact ih1 _ _ _ _ _
   | exact ih2 _ _ _ _
   | exact ih3 _ _ _ _ _ _ _
   | exact spec_l20Rd_odd.mono _ _ _ _
   | exact spec_l20Rd_pick.mono _ _ _ _
   | exact LeO.none _
   | refine LeO.ite ?_ ?_
   | refine LeO.bind ?_ (fun _ => ?_)
  ·
   intro y0 y1 y2 y3
   unfold spec_l20Value.j1
   repeat' first
   | (with_reducible exact ih0 _ _ _ _ _ _)
   | (with_reducible exact ih1 _ _ _ _ _)
   | (with_reducible exact ih2 _ _ _ _)
   | (with_reducible exact ih3 _ _ _ _ _ _ _)
   | (with_reducible exact spec_l20Rd_odd.mono _ _ _ _)
   | (with_reducible exact spec_l20Rd_pick.mono _ _ _ _)
   | (with_reducible exact LeO.refl _)
   | (with_reducible exact LeO.none _)
   | (with_reducible refine LeO.ite ?_ ?_)
   | (with_reducible refine LeO.bind ?_ (fun _ => ?_))
   | exact ih0 _ _ _ _ _ _
   | exact ih1 _ _ _ _ _
   | exact ih2 _ _ _ _
   | exact ih3 _ _ _ _ _ _ _
   | exact spec_l20Rd_odd.mono _ _ _ _
   | exact spec_l20Rd_pick.mono _ _ _ _
   | exact LeO.none _
   | refine LeO.ite ?_ ?_
   | refine LeO.bind ?_ (fun _ => ?_)
  ·
   intro y0 y1 y2 y3 y4 y5 y6
   unfold spec_l20Value.l0
   repeat' first
   | (with_reducible exact ih0 _ _ _ _ _ _)
   | (with_reducible exact ih1 _ _ _ _ _)
   | (with_reducible exact ih2 _ _ _ _)
   | (with_reducible exact ih3 _ _ _ _ _ _ _)
   | (with_reducible exact spec_l20Rd_odd.mono _ _ _ _)
   | (with_reducible exact spec_l20Rd_pick.mono _ _ _ _)
   | (with_reducible exact LeO.refl _)
   | (with_reducible exact LeO.none _)
   | (with_reducible refine LeO.ite ?_ ?_)
   | (with_reducible refine LeO.bind ?_ (fun _ => ?_))
   | exact ih0 _ _ _ _ _ _
   | exact ih1 _ _ _ _ _
   | exact ih2 _ _ _ _
   | exact ih3 _ _ _ _ _ _ _
   | exact spec_l20Rd_odd.mono _ _ _ _
   | exact spec_l20Rd_pick.mono _ _ _ _
   | exact LeO.none _
   | refine LeO.ite ?_ ?_
   | refine LeO.bind ?_ (fun _ => ?_)
theorem spec_l20Value.mono : ∀ a0 a1 a2 k, LeO (spec_l20Value.f k a0 a1 a2) (spec_l20Value.f (k + 1) a0 a1 a2) := by
 intro a0 a1 a2 k
 obtain ⟨ih0, ih1, ih2, ih3⟩ := spec_l20Value.mono_l k
 unfold spec_l20Value.f
 repeat' first
   | (with_reducible exact ih0 _ _ _ _ _ _)
   | (with_reducible exact ih1 _ _ _ _ _)
   | (with_reducible exact ih2 _ _ _ _)
   | (with_reducible exact ih3 _ _ _ _ _ _ _)
   | (with_reducible exact spec_l20Rd_odd.mono _ _ _ _)
   | (with_reducible exact spec_l20Rd_pick.mono _ _ _ _)
   | (with_reducible exact LeO.refl _)
   | (with_reducible exact LeO.none _)
   | (with_reducible refine LeO.ite ?_ ?_)
   | (with_reducible refine LeO.bind ?_ (fun _ => ?_))
   | exact ih0 _ _ _ _ _ _
   | exact ih1 _ _ _ _ _
   | exact ih2 _ _ _ _
   | exact ih3 _ _ _ _ _ _ _
   | exact spec_l20Rd_odd.mono _ _ _ _
   | exact spec_l20Rd_pick.mono _ _ _ _
   | exact LeO.none _
   | refine LeO.ite ?_ ?_
   | refine LeO.bind ?_ (fun _ => ?_)
def spec_l20Value.T17 : Bool × List (List Nat × List Nat) := (true, [([], []), ([0], [0]), ([], []), ([2], [2]), ([3], [3]), ([4], [4]), ([5], [5]), ([6], [6]), ([1, 7], [1, 7]), ([0, 1, 2, 3, 4, 5, 6, 7, 8], []), ([9, 8, 3, 0, 1, 2, 3, 4, 5, 6, 7, 8], [8, 9])])
def spec_l20Value.B17 : List Nat := [0, 1, 0, 4, 12, 28, 60, 124, 255, 511, 1023]
theorem spec_l20Value.tab17 : rtab .any (opsOf Try.f55 17) = spec_l20Value.T17 := by kernel_rfl
theorem spec_l20Value.bits17 : waitsOk spec_l20Value.T17.2 spec_l20Value.B17 = true := by kernel_rfl
set_option maxHeartbeats 8000000 in
set_option maxRecDepth 100000 in
theorem spec_l20Value.calls (k : Nat) (g : Nat) (s0_0 : List Int) (s0_1 : Int) (a1 : Int) (r1 : Int) (r2 : Int) (r3 : ByteArray) (r4 : Int) (w0 w : World) (hI : IsS69 w0 w g s0_0 s0_1) (hB : Below w0.heap.size w0 w) (h : spec_l20Value.f k s0_0 s0_1 a1 = some (r1, r2, r3, r4)) :
  Calls Try.prog 55 #[.pointer (some ⟨g, 0, none⟩), .int .i64 a1] w fun e w' => e = .returned (.agg #[.int .i64 r1, .int .i64 r2, .string r3]) ∧ IsS69 w0 w' g s0_0 r4 ∧ Below w0.heap.size w0 w' ∧ KeepBut w w' g none := by
 have hu27 := Try.underlying27
 have HI0 := zM hI
 have HK := zM (KeepBut.refl w g none)
 have HL := zM hB.size
 clear hI
 have HW0 := zM hB.size
 have HB := zM hB
 clear hB
 have H : ((spec_l20Rd_pick.f k s0_0 s0_1 7).bind fun bt302 => (if bt302.1 = 0 then (spec_l20Value.j3 k a1 s0_0 bt302.2 0 0 (⟨#[]⟩ : ByteArray)) else (if bt302.1 = 1 then (spec_l20Value.j0 k a1 bt302.1 (bt302.1 == 1) s0_0 bt302.2) else (if bt302.1 = 2 then (spec_l20Value.j0 k a1 bt302.1 (bt302.1 == 2) s0_0 bt302.2) else (spec_l20Value.j0 k a1 bt302.1 (bt302.1 == 3) s0_0 bt302.2))))) = some (r1, r2, r3, r4) := h
 clear h
 replace H := Option.bind_eq_some_iff.mp H
 obtain ⟨⟨t302, t303⟩, A30, H⟩ := H
 replace H : (if t302 = 0 then (spec_l20Value.j3 k a1 s0_0 t303 0 0 (⟨#[]⟩ : ByteArray)) else (if t302 = 1 then (spec_l20Value.j0 k a1 t302 (t302 == 1) s0_0 t303) else (if t302 = 2 then (spec_l20Value.j0 k a1 t302 (t302 == 2) s0_0 t303) else (spec_l20Value.j0 k a1 t302 (t302 == 3) s0_0 t303)))) = some (r1, r2, r3, r4) := H
 have A3 := zM A30
 clear A30
 have HC4 := zM H
 clear H
 go_enter Try.func55, Try.ntmps55
 go_upto_block 0 with (first | ((with_reducible refine gate_dst (N := 4) rfl ?_); refine box_event ?hg (N := 4) ?hd (cs := #[.int .i64 0, .int .i64 0, .string (⟨#[]⟩ : ByteArray)]) (t := 27) ?hr ?_; (case hd => rfl); (case hg => rfl); (case hr => first | (go_simp; done) | (go_simp; rfl)); intro gb300 hg w5 hbox hb; have n0_ := zM (IsS69.below (by repeat (first | (with_reducible first | exact HI0.out | apply IsS69.alloc | apply IsS69.drewN | apply IsS69.drew | apply IsS69.set_1) | exact HI0.out)) hb); have n1_ := zM (KeepBut.trans (by repeat (first | (with_reducible first | exact HK.out | apply KeepBut.set_ | apply keep_drewN | apply keep_drew | apply keep_alloc) | exact HK.out)) (KeepBut.of_below hb g none) (.inl rfl)); have n2_ := zM (zG (by repeat (first | (with_reducible first | exact HB.out | apply zU | apply zV | apply zW | refine zH ?_ (IsS69.ge HI0.out)) | exact HB.out)) hb); have n3_ := zM (hbox); have n4_ := zM ((by rw [hg]; exact (keep_size (w := w) (g := g) (row := none) (by repeat (first | (with_reducible first | exact HK.out | apply KeepBut.set_ | apply keep_drewN | apply keep_drew | apply keep_alloc) | exact HK.out))) : w.heap.size ≤ gb300)); have n5_ := zM ((Nat.le_trans HW0.out (by rw [hg]; exact (keep_size (w := w) (g := g) (row := none) (by repeat (first | (with_reducible first | exact HK.out | apply KeepBut.set_ | apply keep_drewN | apply keep_drew | apply keep_alloc) | exact HK.out))) : w.heap.size ≤ gb300) : w0.heap.size ≤ gb300)); have n6_ := zM ((by rw [hg]; exact Nat.ne_of_lt (IsS69.lt (show IsS69 w0 _ g s0_0 s0_1 from by repeat (first | (with_reducible first | exact HI0.out | apply IsS69.alloc | apply IsS69.drewN | apply IsS69.drew | apply IsS69.set_1) | exact HI0.out))) : g ≠ gb300)); have n7_ := zM ((by rw [hg]; exact Nat.ne_of_gt (IsS69.lt (show IsS69 w0 _ g s0_0 s0_1 from by repeat (first | (with_reducible first | exact HI0.out | apply IsS69.alloc | apply IsS69.drewN | apply IsS69.drew | apply IsS69.set_1) | exact HI0.out))) : gb300 ≠ g)); clear HI0; clear HK; clear HB; have HI0 := n0_; have HK := n1_; have HB := n2_; have BK300 := n3_; have GW300 := n4_; have GE300 := n5_; have NB0_300 := n6_; have NB300_0 := n7_; clear n0_ n1_ n2_ n3_ n4_ n5_ n6_ n7_; clear hb hbox hg) | ((with_reducible refine gate_dst (N := 5) rfl ?_); refine box_event ?hg (N := 5) ?hd (cs := #[.int .i64 0, .int .i64 0, .string (⟨#[]⟩ : ByteArray)]) (t := 27) ?hr ?_; (case hd => rfl); (case hg => rfl); (case hr => first | (go_simp; done) | (go_simp; rfl)); intro gb301 hg w6 hbox hb; have n0_ := zM (IsS69.below (by repeat (first | (with_reducible first | exact HI0.out | apply IsS69.alloc | apply IsS69.drewN | apply IsS69.drew | apply IsS69.set_1 | refine IsS69.far ?_ NB0_300.out _) | exact HI0.out)) hb); have n1_ := zM (zJ (g := gb300) (o := .cells #[.int .i64 0, .int .i64 0, .string (⟨#[]⟩ : ByteArray)] 27 (0, 0)) (by (with_reducible repeat (first | refine zX ?_ _ | refine zY ?_ | refine zZ ?_ _)); exact BK300.out) hb); have n2_ := zM (KeepBut.trans (by repeat (first | (with_reducible first | exact HK.out | apply KeepBut.set_ | apply keep_drewN | apply keep_drew | apply keep_alloc | refine keep_far ?_ GW300.out _) | exact HK.out)) (KeepBut.of_below hb g none) (.inl rfl)); have n3_ := zM (zG (by repeat (first | (with_reducible first | exact HB.out | apply zU | apply zV | apply zW | refine zH ?_ (IsS69.ge HI0.out) | refine zH ?_ GE300.out) | exact HB.out)) hb); have n4_ := zM (hbox); have n5_ := zM ((by rw [hg]; exact (keep_size (w := w) (g := g) (row := none) (by repeat (first | (with_reducible first | exact HK.out | apply KeepBut.set_ | apply keep_drewN | apply keep_drew | apply keep_alloc | refine keep_far ?_ GW300.out _) | exact HK.out))) : w.heap.size ≤ gb301)); have n6_ := zM ((Nat.le_trans HW0.out (by rw [hg]; exact (keep_size (w := w) (g := g) (row := none) (by repeat (first | (with_reducible first | exact HK.out | apply KeepBut.set_ | apply keep_drewN | apply keep_drew | apply keep_alloc | refine keep_far ?_ GW300.out _) | exact HK.out))) : w.heap.size ≤ gb301) : w0.heap.size ≤ gb301)); have n7_ := zM ((by rw [hg]; exact Nat.ne_of_lt (blk_lt (g := gb300) (o := .cells #[.int .i64 0, .int .i64 0, .string (⟨#[]⟩ : ByteArray)] 27 (0, 0)) (by (with_reducible repeat (first | refine zX ?_ _ | refine zY ?_ | refine zZ ?_ _)); exact BK300.out)) : gb300 ≠ gb301)); have n8_ := zM ((by rw [hg]; exact Nat.ne_of_gt (blk_lt (g := gb300) (o := .cells #[.int .i64 0, .int .i64 0, .string (⟨#[]⟩ : ByteArray)] 27 (0, 0)) (by (with_reducible repeat (first | refine zX ?_ _ | refine zY ?_ | refine zZ ?_ _)); exact BK300.out)) : gb301 ≠ gb300)); have n9_ := zM ((by rw [hg]; exact Nat.ne_of_lt (IsS69.lt (show IsS69 w0 _ g s0_0 s0_1 from by repeat (first | (with_reducible first | exact HI0.out | apply IsS69.alloc | apply IsS69.drewN | apply IsS69.drew | apply IsS69.set_1 | refine IsS69.far ?_ NB0_300.out _) | exact HI0.out))) : g ≠ gb301)); have n10_ := zM ((by rw [hg]; exact Nat.ne_of_gt (IsS69.lt (show IsS69 w0 _ g s0_0 s0_1 from by repeat (first | (with_reducible first | exact HI0.out | apply IsS69.alloc | apply IsS69.drewN | apply IsS69.drew | apply IsS69.set_1 | refine IsS69.far ?_ NB0_300.out _) | exact HI0.out))) : gb301 ≠ g)); clear HI0; clear BK300; clear HK; clear HB; have HI0 := n0_; have BK300 := n1_; have HK := n2_; have HB := n3_; have BK301 := n4_; have GW301 := n5_; have GE301 := n6_; have NB300_301 := n7_; have NB301_300 := n8_; have NB0_301 := n9_; have NB301_0 := n10_; clear n0_ n1_ n2_ n3_ n4_ n5_ n6_ n7_ n8_ n9_ n10_; clear hb hbox hg; have hnb7 := NB301_300.out; have hnc7 := NB300_301.out; have hnb8 := NB301_0.out; have hnc8 := NB0_301.out; have hcz9_0 : w6.cell? ⟨gb301, 0, none⟩ = some (.int .i64 0) := (zK BK301.out 0).trans rfl; have hcz9_1 : w6.cell? ⟨gb301, 1, none⟩ = some (.int .i64 0) := (zK BK301.out 1).trans rfl; have hcz9_2 : w6.cell? ⟨gb301, 2, none⟩ = some (.string (⟨#[]⟩ : ByteArray)) := (zK BK301.out 2).trans rfl; have hfz9_0 := zF BK301.out 0; have hfz9_1 := zF BK301.out 1; have hfz9_2 := zF BK301.out 2) | ((with_reducible refine gate_callee (f := 57) rfl ?_); refine goesL_ (some 9) rfl rfl Try.func57 (by kernel_rfl) rfl #[.pointer (some ⟨g, 0, none⟩), .int .i64 7] rfl (by (try simp only [List.map_toArray, List.map_cons, List.map_nil]); first | done | rfl | (simp only [List.length_drop, List.length_take]; rfl)) ?_; (with_reducible refine (spec_l20Rd_pick.calls k g s0_0 s0_1 7 t302 t303 w0 _ ?side1 ?side2 A3.out).mono ?_); (case side1 => repeat (first | (with_reducible first | exact HI0.out | apply IsS69.alloc | apply IsS69.drewN | apply IsS69.drew | apply IsS69.set_1 | refine IsS69.far ?_ NB0_300.out _ | refine IsS69.far ?_ NB0_301.out _) | exact HI0.out)); (case side2 => repeat (first | (with_reducible first | exact HB.out | apply zU | apply zV | apply zW | refine zH ?_ (IsS69.ge HI0.out) | refine zH ?_ GE300.out | refine zH ?_ GE301.out) | exact HB.out)); rintro e w10 ⟨rfl, hi, hb, hk⟩; refine ⟨_, rfl, ?_⟩; have n0_ := zM (KeepBut.blk hk (g' := gb300) (o := .cells #[.int .i64 0, .int .i64 0, .string (⟨#[]⟩ : ByteArray)] 27 (0, 0)) (by (with_reducible repeat (first | refine zX ?_ _ | refine zY ?_ | refine zZ ?_ _)); refine blk_far ?_ NB300_301.out _; (with_reducible repeat (first | refine zX ?_ _ | refine zY ?_ | refine zZ ?_ _)); refine blk_far ?_ NB300_301.out _; (with_reducible repeat (first | refine zX ?_ _ | refine zY ?_ | refine zZ ?_ _)); refine blk_far ?_ NB300_301.out _; (with_reducible repeat (first | refine zX ?_ _ | refine zY ?_ | refine zZ ?_ _)); exact BK300.out) NB300_0.out (by simp)); have n1_ := zM (KeepBut.blk hk (g' := gb301) (o := .cells #[.int .i64 0, .int .i64 0, .string (⟨#[]⟩ : ByteArray)] 27 (0, 0)) (by (with_reducible repeat (first | refine zX ?_ _ | refine zY ?_ | refine zZ ?_ _)); refine blk_put (cs := #[.int .i64 0, .int .i64 0, .string (⟨#[]⟩ : ByteArray)]) ?_ 2 _ rfl; (with_reducible repeat (first | refine zX ?_ _ | refine zY ?_ | refine zZ ?_ _)); refine blk_put (cs := #[.int .i64 0, .int .i64 0, .string (⟨#[]⟩ : ByteArray)]) ?_ 1 _ rfl; (with_reducible repeat (first | refine zX ?_ _ | refine zY ?_ | refine zZ ?_ _)); refine blk_put (cs := #[.int .i64 0, .int .i64 0, .string (⟨#[]⟩ : ByteArray)]) ?_ 0 _ rfl; (with_reducible repeat (first | refine zX ?_ _ | refine zY ?_ | refine zZ ?_ _)); exact BK301.out) NB301_0.out (by simp)); have n2_ := zM (KeepBut.trans (by repeat (first | (with_reducible first | exact HK.out | apply KeepBut.set_ | apply keep_drewN | apply keep_drew | apply keep_alloc | refine keep_far ?_ GW300.out _ | refine keep_far ?_ GW301.out _) | exact HK.out)) hk (.inl rfl)); have n3_ := zM (hb); have n4_ := zM (hi); clear BK300; clear BK301; clear HK; clear HB; clear HI0; have BK300 := n0_; have BK301 := n1_; have HK := n2_; have HB := n3_; have HI0 := n4_; clear n0_ n1_ n2_ n3_ n4_; (try clear hb); (try clear hb2); (try clear hk); (try clear hi)))
 (try simp only [Act.put, zA, zB, zC])
 go_cut [] (fun wc => ∃ (kq : Nat) (x1001_3 : Int) (x302000_3 : Int) (x302001_3 : Int) (x302002_3 : ByteArray), Aside0 (spec_l20Value.j3 kq a1 s0_0 x1001_3 x302000_3 x302001_3 x302002_3 = some (r1, r2, r3, r4)) ∧ Aside0 (kq ≤ k) ∧ Aside0 (wc.heap[gb300]? = some (.cells #[.int .i64 0, .int .i64 0, .string (⟨#[]⟩ : ByteArray)] 27 (0, 0))) ∧ Aside0 (wc.heap[gb301]? = some (.cells #[.int .i64 x302000_3, .int .i64 x302001_3, .string x302002_3] 27 (0, 0))) ∧ Aside0 (IsS69 w0 wc g s0_0 x1001_3) ∧ Aside0 (KeepBut w wc g none) ∧ Aside0 (Below w0.heap.size w0 wc))
 case first =>
  have H := HC4.out
  clear HC4
  by_cases c11 : t302 = 0
  ·
   rw [if_pos c11] at H
   have c11b0 : (t302 == 0) = true := beq_iff_eq.mpr c11
   have c11b1 : (t302 != 0) = false := bne_eq_false_iff_eq.mpr c11
   clear c11
   (first | rw [c11b0] | (simp only [i64_w, i32_w]; rw [c11b0]) | skip)
   have H' := zM H
   clear H
   go_wp2
   go_meet
   case rel => exact ⟨_, (t303), (0), (0), ((⟨#[]⟩ : ByteArray)), H', ⟨by first | omega | exact Nat.le_refl _⟩, ⟨by (with_reducible repeat (first | refine zX ?_ _ | refine zY ?_ | refine zZ ?_ _)); exact BK300.out⟩, ⟨by (with_reducible repeat (first | refine zX ?_ _ | refine zY ?_ | refine zZ ?_ _)); exact BK301.out⟩, ⟨by repeat (first | (with_reducible first | exact HI0.out | apply IsS69.alloc | apply IsS69.drewN | apply IsS69.drew | apply IsS69.set_1 | refine IsS69.far ?_ NB0_300.out _ | refine IsS69.far ?_ NB0_301.out _) | exact HI0.out)⟩, ⟨by repeat (first | (with_reducible first | exact HK.out | apply KeepBut.set_ | apply keep_drewN | apply keep_drew | apply keep_alloc | refine keep_far ?_ GW300.out _ | refine keep_far ?_ GW301.out _) | exact HK.out)⟩, ⟨by repeat (first | (with_reducible first | exact HB.out | apply zU | apply zV | apply zW | refine zH ?_ (IsS69.ge HI0.out) | refine zH ?_ GE300.out | refine zH ?_ GE301.out) | exact HB.out)⟩⟩
  ·
   rw [if_neg c11] at H
   have c11b0 : (t302 == 0) = false := beq_eq_false_iff_ne.mpr c11
   have c11b1 : (t302 != 0) = true := bne_iff_ne.mpr c11
   (first | rw [c11b0] | (simp only [i64_w, i32_w]; rw [c11b0]) | skip)
   have HC12 := zM H
   clear H
   go_upto_if 15 with (fail)
   go_cut [15] (fun v15 wc => ∃ (kq : Nat) (x15_11 : Bool), v15 = .bool x15_11 ∧ Aside0 (spec_l20Value.j0 kq a1 t302 x15_11 s0_0 t303 = some (r1, r2, r3, r4)) ∧ Aside0 (kq ≤ k) ∧ Aside0 (wc.heap[gb300]? = some (.cells #[.int .i64 0, .int .i64 0, .string (⟨#[]⟩ : ByteArray)] 27 (0, 0))) ∧ Aside0 (wc.heap[gb301]? = some (.cells #[.int .i64 0, .int .i64 0, .string (⟨#[]⟩ : ByteArray)] 27 (0, 0))) ∧ Aside0 (IsS69 w0 wc g s0_0 t303) ∧ Aside0 (KeepBut w wc g none) ∧ Aside0 (Below w0.heap.size w0 wc))
   case first =>
    have H := HC12.out
    clear HC12
    by_cases c13 : t302 = 1
    ·
     rw [if_pos c13] at H
     have c13b0 : (t302 == 1) = true := beq_iff_eq.mpr c13
     have c13b1 : (t302 != 1) = false := bne_eq_false_iff_eq.mpr c13
     clear c13
     (first | rw [c13b0] | (simp only [i64_w, i32_w]; rw [c13b0]) | skip)
     have H' := zM H
     clear H
     go_wp2
     go_meet
     case rel => exact ⟨_, ((t302 == 1)), (by first | rfl | (simp; done) | (simp [*]; done)), H', ⟨by first | omega | exact Nat.le_refl _⟩, ⟨by (with_reducible repeat (first | refine zX ?_ _ | refine zY ?_ | refine zZ ?_ _)); exact BK300.out⟩, ⟨by (with_reducible repeat (first | refine zX ?_ _ | refine zY ?_ | refine zZ ?_ _)); exact BK301.out⟩, ⟨by repeat (first | (with_reducible first | exact HI0.out | apply IsS69.alloc | apply IsS69.drewN | apply IsS69.drew | apply IsS69.set_1 | refine IsS69.far ?_ NB0_300.out _ | refine IsS69.far ?_ NB0_301.out _) | exact HI0.out)⟩, ⟨by repeat (first | (with_reducible first | exact HK.out | apply KeepBut.set_ | apply keep_drewN | apply keep_drew | apply keep_alloc | refine keep_far ?_ GW300.out _ | refine keep_far ?_ GW301.out _) | exact HK.out)⟩, ⟨by repeat (first | (with_reducible first | exact HB.out | apply zU | apply zV | apply zW | refine zH ?_ (IsS69.ge HI0.out) | refine zH ?_ GE300.out | refine zH ?_ GE301.out) | exact HB.out)⟩⟩
    ·
     rw [if_neg c13] at H
     have c13b0 : (t302 == 1) = false := beq_eq_false_iff_ne.mpr c13
     have c13b1 : (t302 != 1) = true := bne_iff_ne.mpr c13
     (first | rw [c13b0] | (simp only [i64_w, i32_w]; rw [c13b0]) | skip)
     by_cases c14 : t302 = 2
     ·
      rw [if_pos c14] at H
      have c14b0 : (t302 == 2) = true := beq_iff_eq.mpr c14
      have c14b1 : (t302 != 2) = false := bne_eq_false_iff_eq.mpr c14
      clear c14
      have H' := zM H
      clear H
      go_wp2
      go_meet
      case rel => exact ⟨_, ((t302 == 2)), (by first | rfl | (simp; done) | (simp [*]; done)), H', ⟨by first | omega | exact Nat.le_refl _⟩, ⟨by (with_reducible repeat (first | refine zX ?_ _ | refine zY ?_ | refine zZ ?_ _)); exact BK300.out⟩, ⟨by (with_reducible repeat (first | refine zX ?_ _ | refine zY ?_ | refine zZ ?_ _)); exact BK301.out⟩, ⟨by repeat (first | (with_reducible first | exact HI0.out | apply IsS69.alloc | apply IsS69.drewN | apply IsS69.drew | apply IsS69.set_1 | refine IsS69.far ?_ NB0_300.out _ | refine IsS69.far ?_ NB0_301.out _) | exact HI0.out)⟩, ⟨by repeat (first | (with_reducible first | exact HK.out | apply KeepBut.set_ | apply keep_drewN | apply keep_drew | apply keep_alloc | refine keep_far ?_ GW300.out _ | refine keep_far ?_ GW301.out _) | exact HK.out)⟩, ⟨by repeat (first | (with_reducible first | exact HB.out | apply zU | apply zV | apply zW | refine zH ?_ (IsS69.ge HI0.out) | refine zH ?_ GE300.out | refine zH ?_ GE301.out) | exact HB.out)⟩⟩
     ·
      rw [if_neg c14] at H
      have c14b0 : (t302 == 2) = false := beq_eq_false_iff_ne.mpr c14
      have c14b1 : (t302 != 2) = true := bne_iff_ne.mpr c14
      have H' := zM H
      clear H
      go_wp2
      go_meet
      case rel => exact ⟨_, ((t302 == 3)), (by first | rfl | (simp; done) | (simp [*]; done)), H', ⟨by first | omega | exact Nat.le_refl _⟩, ⟨by (with_reducible repeat (first | refine zX ?_ _ | refine zY ?_ | refine zZ ?_ _)); exact BK300.out⟩, ⟨by (with_reducible repeat (first | refine zX ?_ _ | refine zY ?_ | refine zZ ?_ _)); exact BK301.out⟩, ⟨by repeat (first | (with_reducible first | exact HI0.out | apply IsS69.alloc | apply IsS69.drewN | apply IsS69.drew | apply IsS69.set_1 | refine IsS69.far ?_ NB0_300.out _ | refine IsS69.far ?_ NB0_301.out _) | exact HI0.out)⟩, ⟨by repeat (first | (with_reducible first | exact HK.out | apply KeepBut.set_ | apply keep_drewN | apply keep_drew | apply keep_alloc | refine keep_far ?_ GW300.out _ | refine keep_far ?_ GW301.out _) | exact HK.out)⟩, ⟨by repeat (first | (with_reducible first | exact HB.out | apply zU | apply zV | apply zW | refine zH ?_ (IsS69.ge HI0.out) | refine zH ?_ GE300.out | refine zH ?_ GE301.out) | exact HB.out)⟩⟩
   case rest =>
    clear HC12
    try clear c1
    try clear p2
    try clear c5
    try clear c7
    try clear c8
    try clear c11
    try clear c11b0
    try clear c11b1
    try clear c13
    try clear c13b0
    try clear c13b1
    try clear c14
    try clear c14b0
    try clear c14b1
    try clear hcz9_0
    try clear hcz9_1
    try clear hcz9_2
    try clear hfz9_0
    try clear hfz9_1
    try clear hfz9_2
    obtain ⟨kq, x15_11, rfl, HA, HJ11, BK300, BK301, HI0, HK, HB⟩ := hcut
    cases kq with
    | zero => exact absurd HA.out (by simp [spec_l20Value.j0])
    | succ kj11 =>
     have H := HA.out
     clear HA
     simp only [spec_l20Value.j0] at H
     by_cases c15 : x15_11 = true
     ·
      subst c15
      have H1 : ((spec_l20Rd_pick.f kj11 s0_0 t303 7).bind fun bt304 => ((spec_l20Rd_pick.f kj11 s0_0 bt304.2 8).bind fun bt306 => (if bt306.1 = 0 then ((some (([9999, (-9999), 255, 256, (-256)] : List Int) : List Int)).bind fun y308 => ((spec_l20Rd_pick.f kj11 s0_0 bt306.2 5).bind fun bt311 => (if 0 ≤ bt311.1 then (if bt311.1 < (y308.length : Int) then (spec_l20Value.j3 kj11 a1 s0_0 bt311.2 1 (rd y308 bt311.1) (⟨#[]⟩ : ByteArray)) else (none)) else (none)))) else (spec_l20Value.j3 kj11 a1 s0_0 bt306.2 1 (wrap64 (bt304.1 - 3)) (⟨#[]⟩ : ByteArray))))) = some (r1, r2, r3, r4) := by rw [if_pos rfl] at H; exact H
      clear H
      have H := H1
      clear H1
      replace H := Option.bind_eq_some_iff.mp H
      obtain ⟨⟨t304, t305⟩, A160, H⟩ := H
      replace H : ((spec_l20Rd_pick.f kj11 s0_0 t305 8).bind fun bt306 => (if bt306.1 = 0 then ((some (([9999, (-9999), 255, 256, (-256)] : List Int) : List Int)).bind fun y308 => ((spec_l20Rd_pick.f kj11 s0_0 bt306.2 5).bind fun bt311 => (if 0 ≤ bt311.1 then (if bt311.1 < (y308.length : Int) then (spec_l20Value.j3 kj11 a1 s0_0 bt311.2 1 (rd y308 bt311.1) (⟨#[]⟩ : ByteArray)) else (none)) else (none)))) else (spec_l20Value.j3 kj11 a1 s0_0 bt306.2 1 (wrap64 (t304 - 3)) (⟨#[]⟩ : ByteArray)))) = some (r1, r2, r3, r4) := H
      have A16 := zM A160
      clear A160
      replace H := Option.bind_eq_some_iff.mp H
      obtain ⟨⟨t306, t307⟩, A170, H⟩ := H
      replace H : (if t306 = 0 then ((some (([9999, (-9999), 255, 256, (-256)] : List Int) : List Int)).bind fun y308 => ((spec_l20Rd_pick.f kj11 s0_0 t307 5).bind fun bt311 => (if 0 ≤ bt311.1 then (if bt311.1 < (y308.length : Int) then (spec_l20Value.j3 kj11 a1 s0_0 bt311.2 1 (rd y308 bt311.1) (⟨#[]⟩ : ByteArray)) else (none)) else (none)))) else (spec_l20Value.j3 kj11 a1 s0_0 t307 1 (wrap64 (t304 - 3)) (⟨#[]⟩ : ByteArray))) = some (r1, r2, r3, r4) := H
      have A17 := zM A170
      clear A170
      by_cases c18 : t306 = 0
      ·
       rw [if_pos c18] at H
       have c18b0 : (t306 == 0) = true := beq_iff_eq.mpr c18
       have c18b1 : (t306 != 0) = false := bne_eq_false_iff_eq.mpr c18
       clear c18
       obtain ⟨y308, hy308⟩ : ∃ y_ : List Int, y_ = (([9999, (-9999), 255, 256, (-256)] : List Int)) := ⟨_, rfl⟩
       replace H : ((spec_l20Rd_pick.f kj11 s0_0 t307 5).bind fun bt311 => (if 0 ≤ bt311.1 then (if bt311.1 < (y308.length : Int) then (spec_l20Value.j3 kj11 a1 s0_0 bt311.2 1 (rd y308 bt311.1) (⟨#[]⟩ : ByteArray)) else (none)) else (none))) = some (r1, r2, r3, r4) := by first | (rw [hy308]; with_reducible exact H) | (have H2_ := (Option.bind_some _ _).symm.trans H; rw [hy308]; with_reducible exact H2_) | (have H2_ := (Option.bind_some _ _).symm.trans H; with_reducible exact H2_) | with_reducible exact H | (rw [hy308]; exact H) | exact H
       have Ny308 := zM hy308
       clear hy308
       replace H := Option.bind_eq_some_iff.mp H
       obtain ⟨⟨t311, t312⟩, A190, H⟩ := H
       replace H : (if 0 ≤ t311 then (if t311 < (y308.length : Int) then (spec_l20Value.j3 kj11 a1 s0_0 t312 1 (rd y308 t311) (⟨#[]⟩ : ByteArray)) else (none)) else (none)) = some (r1, r2, r3, r4) := H
       have A19 := zM A190
       clear A190
       by_cases c20 : 0 ≤ t311
       ·
        rw [if_pos c20] at H
        have c20b0 : decide (0 ≤ t311) = true := decide_eq_true c20
        clear c20
        by_cases c21 : t311 < (y308.length : Int)
        ·
         rw [if_pos c21] at H
         have c21b0 : decide (t311 < (y308.length : Int)) = true := decide_eq_true c21
         clear c21
         have H' := zM H
         clear H
         go_wp2_with (first | ((with_reducible refine gate_callee (f := 57) rfl ?_); refine goesL_ (some 20) rfl rfl Try.func57 (by kernel_rfl) rfl #[.pointer (some ⟨g, 0, none⟩), .int .i64 7] rfl (by (try simp only [List.map_toArray, List.map_cons, List.map_nil]); first | done | rfl | (simp only [List.length_drop, List.length_take]; rfl)) ?_; (with_reducible refine (spec_l20Rd_pick.calls kj11 g s0_0 t303 7 t304 t305 w0 _ ?side1 ?side2 A16.out).mono ?_); (case side1 => repeat (first | (with_reducible first | exact HI0.out | apply IsS69.alloc | apply IsS69.drewN | apply IsS69.drew | apply IsS69.set_1 | refine IsS69.far ?_ NB0_300.out _ | refine IsS69.far ?_ NB0_301.out _) | exact HI0.out)); (case side2 => repeat (first | (with_reducible first | exact HB.out | apply zU | apply zV | apply zW | refine zH ?_ (IsS69.ge HI0.out) | refine zH ?_ GE300.out | refine zH ?_ GE301.out) | exact HB.out)); rintro e w22 ⟨rfl, hi, hb, hk⟩; refine ⟨_, rfl, ?_⟩; have n0_ := zM (KeepBut.blk hk (g' := gb300) (o := .cells #[.int .i64 0, .int .i64 0, .string (⟨#[]⟩ : ByteArray)] 27 (0, 0)) (by (with_reducible repeat (first | refine zX ?_ _ | refine zY ?_ | refine zZ ?_ _)); exact BK300.out) NB300_0.out (by simp)); have n1_ := zM (KeepBut.blk hk (g' := gb301) (o := .cells #[.int .i64 0, .int .i64 0, .string (⟨#[]⟩ : ByteArray)] 27 (0, 0)) (by (with_reducible repeat (first | refine zX ?_ _ | refine zY ?_ | refine zZ ?_ _)); exact BK301.out) NB301_0.out (by simp)); have n2_ := zM (KeepBut.trans (by repeat (first | (with_reducible first | exact HK.out | apply KeepBut.set_ | apply keep_drewN | apply keep_drew | apply keep_alloc | refine keep_far ?_ GW300.out _ | refine keep_far ?_ GW301.out _) | exact HK.out)) hk (.inl rfl)); have n3_ := zM (hb); have n4_ := zM (hi); clear BK300; clear BK301; clear HK; clear HB; clear HI0; have BK300 := n0_; have BK301 := n1_; have HK := n2_; have HB := n3_; have HI0 := n4_; clear n0_ n1_ n2_ n3_ n4_; (try clear hb); (try clear hb2); (try clear hk); (try clear hi); have hnb23 := NB301_300.out; have hnc23 := NB300_301.out; have hnb24 := NB301_0.out; have hnc24 := NB0_301.out; have hcz25_0 : w22.cell? ⟨gb301, 0, none⟩ = some (.int .i64 0) := (zK BK301.out 0).trans rfl; have hcz25_1 : w22.cell? ⟨gb301, 1, none⟩ = some (.int .i64 0) := (zK BK301.out 1).trans rfl; have hcz25_2 : w22.cell? ⟨gb301, 2, none⟩ = some (.string (⟨#[]⟩ : ByteArray)) := (zK BK301.out 2).trans rfl; have hfz25_0 := zF BK301.out 0; have hfz25_1 := zF BK301.out 1; have hfz25_2 := zF BK301.out 2) | ((with_reducible refine gate_callee (f := 57) rfl ?_); refine goesL_ (some 24) rfl rfl Try.func57 (by kernel_rfl) rfl #[.pointer (some ⟨g, 0, none⟩), .int .i64 8] rfl (by (try simp only [List.map_toArray, List.map_cons, List.map_nil]); first | done | rfl | (simp only [List.length_drop, List.length_take]; rfl)) ?_; (with_reducible refine (spec_l20Rd_pick.calls kj11 g s0_0 t305 8 t306 t307 w0 _ ?side1 ?side2 A17.out).mono ?_); (case side1 => repeat (first | (with_reducible first | exact HI0.out | apply IsS69.alloc | apply IsS69.drewN | apply IsS69.drew | apply IsS69.set_1 | refine IsS69.far ?_ NB0_300.out _ | refine IsS69.far ?_ NB0_301.out _) | exact HI0.out)); (case side2 => repeat (first | (with_reducible first | exact HB.out | apply zU | apply zV | apply zW | refine zH ?_ (IsS69.ge HI0.out) | refine zH ?_ GE300.out | refine zH ?_ GE301.out) | exact HB.out)); rintro e w26 ⟨rfl, hi, hb, hk⟩; refine ⟨_, rfl, ?_⟩; have n0_ := zM (KeepBut.blk hk (g' := gb300) (o := .cells #[.int .i64 0, .int .i64 0, .string (⟨#[]⟩ : ByteArray)] 27 (0, 0)) (by (with_reducible repeat (first | refine zX ?_ _ | refine zY ?_ | refine zZ ?_ _)); refine blk_far ?_ NB300_301.out _; (with_reducible repeat (first | refine zX ?_ _ | refine zY ?_ | refine zZ ?_ _)); refine blk_far ?_ NB300_301.out _; (with_reducible repeat (first | refine zX ?_ _ | refine zY ?_ | refine zZ ?_ _)); refine blk_far ?_ NB300_301.out _; (with_reducible repeat (first | refine zX ?_ _ | refine zY ?_ | refine zZ ?_ _)); exact BK300.out) NB300_0.out (by simp)); have n1_ := zM (KeepBut.blk hk (g' := gb301) (o := .cells #[.int .i64 1, .int .i64 (wrap64 (t304 - 3)), .string (⟨#[]⟩ : ByteArray)] 27 (0, 0)) (by (with_reducible repeat (first | refine zX ?_ _ | refine zY ?_ | refine zZ ?_ _)); refine blk_put (cs := #[.int .i64 1, .int .i64 (wrap64 (t304 - 3)), .string (⟨#[]⟩ : ByteArray)]) ?_ 2 _ rfl; (with_reducible repeat (first | refine zX ?_ _ | refine zY ?_ | refine zZ ?_ _)); refine blk_put (cs := #[.int .i64 1, .int .i64 0, .string (⟨#[]⟩ : ByteArray)]) ?_ 1 _ rfl; (with_reducible repeat (first | refine zX ?_ _ | refine zY ?_ | refine zZ ?_ _)); refine blk_put (cs := #[.int .i64 0, .int .i64 0, .string (⟨#[]⟩ : ByteArray)]) ?_ 0 _ rfl; (with_reducible repeat (first | refine zX ?_ _ | refine zY ?_ | refine zZ ?_ _)); exact BK301.out) NB301_0.out (by simp)); have n2_ := zM (KeepBut.trans (by repeat (first | (with_reducible first | exact HK.out | apply KeepBut.set_ | apply keep_drewN | apply keep_drew | apply keep_alloc | refine keep_far ?_ GW300.out _ | refine keep_far ?_ GW301.out _) | exact HK.out)) hk (.inl rfl)); have n3_ := zM (hb); have n4_ := zM (hi); clear BK300; clear BK301; clear HK; clear HB; clear HI0; have BK300 := n0_; have BK301 := n1_; have HK := n2_; have HB := n3_; have HI0 := n4_; clear n0_ n1_ n2_ n3_ n4_; (try clear hb); (try clear hb2); (try clear hk); (try clear hi)) | ((with_reducible refine gate_dst (N := 26) rfl ?_); refine Kd.R_lit (Kd.int .i64) _ 3 ?hg (N := 26) ?hd (xs := ([9999, (-9999), 255, 256, (-256)] : List Int)) (inner := [.int .i64 9999, .int .i64 (-9999), .int .i64 255, .int .i64 256, .int .i64 (-256)]) (ok := fun _ => True) (okp := fun _ => True) ?hr ?hp (fun _ hk => hk) trivial (Below.refl _ _) (Nat.le_refl _) (by simp) ?_; (case hd => rfl); (case hg => rfl); (case hr => first | (go_simp; done) | (go_simp; rfl)); (case hp => exact (Reps.one (show Kd.M (Kd.int .i64) _ _ _ 9999 [.int .i64 9999] from rfl) (Reps.one (show Kd.M (Kd.int .i64) _ _ _ (-9999) [.int .i64 (-9999)] from rfl) (Reps.one (show Kd.M (Kd.int .i64) _ _ _ 255 [.int .i64 255] from rfl) (Reps.one (show Kd.M (Kd.int .i64) _ _ _ 256 [.int .i64 256] from rfl) (Reps.one (show Kd.M (Kd.int .i64) _ _ _ (-256) [.int .i64 (-256)] from rfl) (Reps.none _ _))))))); intro v309 w27 ho28 hb hg_ hnew_; clear hg_ hnew_; (first | rw [← Ny308.out] at ho28 | (simp only [Int.reduceToNat] at ho28; rw [← Ny308.out] at ho28)); have n0_ := zM (Kd.R_lower ho28 (keep_size (w := w) (g := g) (row := none) (by repeat (first | (with_reducible first | exact HK.out | apply KeepBut.set_ | apply keep_drewN | apply keep_drew | apply keep_alloc | refine keep_far ?_ GW300.out _ | refine keep_far ?_ GW301.out _) | exact HK.out)))); have n1_ := zM (zJ (g := gb300) (o := .cells #[.int .i64 0, .int .i64 0, .string (⟨#[]⟩ : ByteArray)] 27 (0, 0)) (by (with_reducible repeat (first | refine zX ?_ _ | refine zY ?_ | refine zZ ?_ _)); exact BK300.out) hb); have n2_ := zM (zJ (g := gb301) (o := .cells #[.int .i64 1, .int .i64 (wrap64 (t304 - 3)), .string (⟨#[]⟩ : ByteArray)] 27 (0, 0)) (by (with_reducible repeat (first | refine zX ?_ _ | refine zY ?_ | refine zZ ?_ _)); exact BK301.out) hb); have n3_ := zM (IsS69.below (by repeat (first | (with_reducible first | exact HI0.out | apply IsS69.alloc | apply IsS69.drewN | apply IsS69.drew | apply IsS69.set_1 | refine IsS69.far ?_ NB0_300.out _ | refine IsS69.far ?_ NB0_301.out _) | exact HI0.out)) hb); have n4_ := zM (KeepBut.trans (by repeat (first | (with_reducible first | exact HK.out | apply KeepBut.set_ | apply keep_drewN | apply keep_drew | apply keep_alloc | refine keep_far ?_ GW300.out _ | refine keep_far ?_ GW301.out _) | exact HK.out)) (KeepBut.of_below hb g none) (.inl rfl)); have n5_ := zM (zG (by repeat (first | (with_reducible first | exact HB.out | apply zU | apply zV | apply zW | refine zH ?_ (IsS69.ge HI0.out) | refine zH ?_ GE300.out | refine zH ?_ GE301.out) | exact HB.out)) hb); clear BK300; clear BK301; clear HI0; clear HK; clear HB; have HO310 := n0_; have BK300 := n1_; have BK301 := n2_; have HI0 := n3_; have HK := n4_; have HB := n5_; clear n0_ n1_ n2_ n3_ n4_ n5_; clear hb ho28) | ((with_reducible refine gate_callee (f := 57) rfl ?_); refine goesL_ (some 28) rfl rfl Try.func57 (by kernel_rfl) rfl #[.pointer (some ⟨g, 0, none⟩), .int .i64 5] rfl (by (try simp only [List.map_toArray, List.map_cons, List.map_nil]); first | done | rfl | (simp only [List.length_drop, List.length_take]; rfl)) ?_; (with_reducible refine (spec_l20Rd_pick.calls kj11 g s0_0 t307 5 t311 t312 w0 _ ?side1 ?side2 A19.out).mono ?_); (case side1 => repeat (first | (with_reducible first | exact HI0.out | apply IsS69.alloc | apply IsS69.drewN | apply IsS69.drew | apply IsS69.set_1 | refine IsS69.far ?_ NB0_300.out _ | refine IsS69.far ?_ NB0_301.out _) | exact HI0.out)); (case side2 => repeat (first | (with_reducible first | exact HB.out | apply zU | apply zV | apply zW | refine zH ?_ (IsS69.ge HI0.out) | refine zH ?_ GE300.out | refine zH ?_ GE301.out) | exact HB.out)); rintro e w29 ⟨rfl, hi, hb, hk⟩; refine ⟨_, rfl, ?_⟩; have n0_ := zM (KeepBut.blk hk (g' := gb300) (o := .cells #[.int .i64 0, .int .i64 0, .string (⟨#[]⟩ : ByteArray)] 27 (0, 0)) (by (with_reducible repeat (first | refine zX ?_ _ | refine zY ?_ | refine zZ ?_ _)); exact BK300.out) NB300_0.out (by simp)); have n1_ := zM (KeepBut.blk hk (g' := gb301) (o := .cells #[.int .i64 1, .int .i64 (wrap64 (t304 - 3)), .string (⟨#[]⟩ : ByteArray)] 27 (0, 0)) (by (with_reducible repeat (first | refine zX ?_ _ | refine zY ?_ | refine zZ ?_ _)); exact BK301.out) NB301_0.out (by simp)); have n2_ := zM (Kd.R_mono (Kd.R_keep (IsS69.apart (show IsS69 w0 _ g s0_0 t307 from by repeat (first | (with_reducible first | exact HI0.out | apply IsS69.alloc | apply IsS69.drewN | apply IsS69.drew | apply IsS69.set_1 | refine IsS69.far ?_ NB0_300.out _ | refine IsS69.far ?_ NB0_301.out _) | exact HI0.out)) (by (with_reducible repeat (first | apply zR | apply zS | apply zT)); exact HO310.out) (by decide)) hk (fun _ h => h.2)) (fun _ h => h.1)); have n3_ := zM (KeepBut.trans (by repeat (first | (with_reducible first | exact HK.out | apply KeepBut.set_ | apply keep_drewN | apply keep_drew | apply keep_alloc | refine keep_far ?_ GW300.out _ | refine keep_far ?_ GW301.out _) | exact HK.out)) hk (.inl rfl)); have n4_ := zM (hb); have n5_ := zM (hi); clear BK300; clear BK301; clear HO310; clear HK; clear HB; clear HI0; have BK300 := n0_; have BK301 := n1_; have HO310 := n2_; have HK := n3_; have HB := n4_; have HI0 := n5_; clear n0_ n1_ n2_ n3_ n4_ n5_; (try clear hb); (try clear hb2); (try clear hk); (try clear hi); obtain ⟨Ao30, co30, eo30⟩ := Kd.R_slice HO310.out; subst eo30; have p313 : 0 ≤ (t311 : Int) := zL (by assumption); have q313 : t311 < (y308.length : Int) := zL (by assumption); obtain ⟨ad313, e313, hx313_0⟩ := Kd.at_int (Kd.R_reads' HO310.out).2.2 t311 p313 q313; cases e313; replace p313 := eq_true p313; replace q313 := eq_true q313; have hcz31_0 : w29.cell? ⟨gb301, 0, none⟩ = some (.int .i64 1) := (zK BK301.out 0).trans rfl; have hcz31_1 : w29.cell? ⟨gb301, 1, none⟩ = some (.int .i64 (wrap64 (t304 - 3))) := (zK BK301.out 1).trans rfl; have hcz31_2 : w29.cell? ⟨gb301, 2, none⟩ = some (.string (⟨#[]⟩ : ByteArray)) := (zK BK301.out 2).trans rfl; have hfz31_0 := zF BK301.out 0; have hfz31_1 := zF BK301.out 1; have hfz31_2 := zF BK301.out 2))
         go_meet
         case rel => exact ⟨_, (t312), (1), (rd y308 t311), ((⟨#[]⟩ : ByteArray)), H', ⟨by have := HJ11.out; first | omega | exact Nat.le_refl _⟩, ⟨by (with_reducible repeat (first | refine zX ?_ _ | refine zY ?_ | refine zZ ?_ _)); refine blk_far ?_ NB300_301.out _; (with_reducible repeat (first | refine zX ?_ _ | refine zY ?_ | refine zZ ?_ _)); exact BK300.out⟩, ⟨by (with_reducible repeat (first | refine zX ?_ _ | refine zY ?_ | refine zZ ?_ _)); refine blk_put (cs := #[.int .i64 1, .int .i64 (wrap64 (t304 - 3)), .string (⟨#[]⟩ : ByteArray)]) ?_ 1 _ rfl; (with_reducible repeat (first | refine zX ?_ _ | refine zY ?_ | refine zZ ?_ _)); exact BK301.out⟩, ⟨by repeat (first | (with_reducible first | exact HI0.out | apply IsS69.alloc | apply IsS69.drewN | apply IsS69.drew | apply IsS69.set_1 | refine IsS69.far ?_ NB0_300.out _ | refine IsS69.far ?_ NB0_301.out _) | exact HI0.out)⟩, ⟨by repeat (first | (with_reducible first | exact HK.out | apply KeepBut.set_ | apply keep_drewN | apply keep_drew | apply keep_alloc | refine keep_far ?_ GW300.out _ | refine keep_far ?_ GW301.out _) | exact HK.out)⟩, ⟨by repeat (first | (with_reducible first | exact HB.out | apply zU | apply zV | apply zW | refine zH ?_ (IsS69.ge HI0.out) | refine zH ?_ GE300.out | refine zH ?_ GE301.out) | exact HB.out)⟩⟩
        ·
         rw [if_neg c21] at H
         exact absurd H (by simp)
       ·
        rw [if_neg c20] at H
        exact absurd H (by simp)
      ·
       rw [if_neg c18] at H
       have c18b0 : (t306 == 0) = false := beq_eq_false_iff_ne.mpr c18
       have c18b1 : (t306 != 0) = true := bne_iff_ne.mpr c18
       have H' := zM H
       clear H
       go_wp2_with (first | ((with_reducible refine gate_callee (f := 57) rfl ?_); refine goesL_ (some 20) rfl rfl Try.func57 (by kernel_rfl) rfl #[.pointer (some ⟨g, 0, none⟩), .int .i64 7] rfl (by (try simp only [List.map_toArray, List.map_cons, List.map_nil]); first | done | rfl | (simp only [List.length_drop, List.length_take]; rfl)) ?_; (with_reducible refine (spec_l20Rd_pick.calls kj11 g s0_0 t303 7 t304 t305 w0 _ ?side1 ?side2 A16.out).mono ?_); (case side1 => repeat (first | (with_reducible first | exact HI0.out | apply IsS69.alloc | apply IsS69.drewN | apply IsS69.drew | apply IsS69.set_1 | refine IsS69.far ?_ NB0_300.out _ | refine IsS69.far ?_ NB0_301.out _) | exact HI0.out)); (case side2 => repeat (first | (with_reducible first | exact HB.out | apply zU | apply zV | apply zW | refine zH ?_ (IsS69.ge HI0.out) | refine zH ?_ GE300.out | refine zH ?_ GE301.out) | exact HB.out)); rintro e w32 ⟨rfl, hi, hb, hk⟩; refine ⟨_, rfl, ?_⟩; have n0_ := zM (KeepBut.blk hk (g' := gb300) (o := .cells #[.int .i64 0, .int .i64 0, .string (⟨#[]⟩ : ByteArray)] 27 (0, 0)) (by (with_reducible repeat (first | refine zX ?_ _ | refine zY ?_ | refine zZ ?_ _)); exact BK300.out) NB300_0.out (by simp)); have n1_ := zM (KeepBut.blk hk (g' := gb301) (o := .cells #[.int .i64 0, .int .i64 0, .string (⟨#[]⟩ : ByteArray)] 27 (0, 0)) (by (with_reducible repeat (first | refine zX ?_ _ | refine zY ?_ | refine zZ ?_ _)); exact BK301.out) NB301_0.out (by simp)); have n2_ := zM (KeepBut.trans (by repeat (first | (with_reducible first | exact HK.out | apply KeepBut.set_ | apply keep_drewN | apply keep_drew | apply keep_alloc | refine keep_far ?_ GW300.out _ | refine keep_far ?_ GW301.out _) | exact HK.out)) hk (.inl rfl)); have n3_ := zM (hb); have n4_ := zM (hi); clear BK300; clear BK301; clear HK; clear HB; clear HI0; have BK300 := n0_; have BK301 := n1_; have HK := n2_; have HB := n3_; have HI0 := n4_; clear n0_ n1_ n2_ n3_ n4_; (try clear hb); (try clear hb2); (try clear hk); (try clear hi); have hnb33 := NB301_300.out; have hnc33 := NB300_301.out; have hnb34 := NB301_0.out; have hnc34 := NB0_301.out; have hcz35_0 : w32.cell? ⟨gb301, 0, none⟩ = some (.int .i64 0) := (zK BK301.out 0).trans rfl; have hcz35_1 : w32.cell? ⟨gb301, 1, none⟩ = some (.int .i64 0) := (zK BK301.out 1).trans rfl; have hcz35_2 : w32.cell? ⟨gb301, 2, none⟩ = some (.string (⟨#[]⟩ : ByteArray)) := (zK BK301.out 2).trans rfl; have hfz35_0 := zF BK301.out 0; have hfz35_1 := zF BK301.out 1; have hfz35_2 := zF BK301.out 2) | ((with_reducible refine gate_callee (f := 57) rfl ?_); refine goesL_ (some 24) rfl rfl Try.func57 (by kernel_rfl) rfl #[.pointer (some ⟨g, 0, none⟩), .int .i64 8] rfl (by (try simp only [List.map_toArray, List.map_cons, List.map_nil]); first | done | rfl | (simp only [List.length_drop, List.length_take]; rfl)) ?_; (with_reducible refine (spec_l20Rd_pick.calls kj11 g s0_0 t305 8 t306 t307 w0 _ ?side1 ?side2 A17.out).mono ?_); (case side1 => repeat (first | (with_reducible first | exact HI0.out | apply IsS69.alloc | apply IsS69.drewN | apply IsS69.drew | apply IsS69.set_1 | refine IsS69.far ?_ NB0_300.out _ | refine IsS69.far ?_ NB0_301.out _) | exact HI0.out)); (case side2 => repeat (first | (with_reducible first | exact HB.out | apply zU | apply zV | apply zW | refine zH ?_ (IsS69.ge HI0.out) | refine zH ?_ GE300.out | refine zH ?_ GE301.out) | exact HB.out)); rintro e w36 ⟨rfl, hi, hb, hk⟩; refine ⟨_, rfl, ?_⟩; have n0_ := zM (KeepBut.blk hk (g' := gb300) (o := .cells #[.int .i64 0, .int .i64 0, .string (⟨#[]⟩ : ByteArray)] 27 (0, 0)) (by (with_reducible repeat (first | refine zX ?_ _ | refine zY ?_ | refine zZ ?_ _)); refine blk_far ?_ NB300_301.out _; (with_reducible repeat (first | refine zX ?_ _ | refine zY ?_ | refine zZ ?_ _)); refine blk_far ?_ NB300_301.out _; (with_reducible repeat (first | refine zX ?_ _ | refine zY ?_ | refine zZ ?_ _)); refine blk_far ?_ NB300_301.out _; (with_reducible repeat (first | refine zX ?_ _ | refine zY ?_ | refine zZ ?_ _)); exact BK300.out) NB300_0.out (by simp)); have n1_ := zM (KeepBut.blk hk (g' := gb301) (o := .cells #[.int .i64 1, .int .i64 (wrap64 (t304 - 3)), .string (⟨#[]⟩ : ByteArray)] 27 (0, 0)) (by (with_reducible repeat (first | refine zX ?_ _ | refine zY ?_ | refine zZ ?_ _)); refine blk_put (cs := #[.int .i64 1, .int .i64 (wrap64 (t304 - 3)), .string (⟨#[]⟩ : ByteArray)]) ?_ 2 _ rfl; (with_reducible repeat (first | refine zX ?_ _ | refine zY ?_ | refine zZ ?_ _)); refine blk_put (cs := #[.int .i64 1, .int .i64 0, .string (⟨#[]⟩ : ByteArray)]) ?_ 1 _ rfl; (with_reducible repeat (first | refine zX ?_ _ | refine zY ?_ | refine zZ ?_ _)); refine blk_put (cs := #[.int .i64 0, .int .i64 0, .string (⟨#[]⟩ : ByteArray)]) ?_ 0 _ rfl; (with_reducible repeat (first | refine zX ?_ _ | refine zY ?_ | refine zZ ?_ _)); exact BK301.out) NB301_0.out (by simp)); have n2_ := zM (KeepBut.trans (by repeat (first | (with_reducible first | exact HK.out | apply KeepBut.set_ | apply keep_drewN | apply keep_drew | apply keep_alloc | refine keep_far ?_ GW300.out _ | refine keep_far ?_ GW301.out _) | exact HK.out)) hk (.inl rfl)); have n3_ := zM (hb); have n4_ := zM (hi); clear BK300; clear BK301; clear HK; clear HB; clear HI0; have BK300 := n0_; have BK301 := n1_; have HK := n2_; have HB := n3_; have HI0 := n4_; clear n0_ n1_ n2_ n3_ n4_; (try clear hb); (try clear hb2); (try clear hk); (try clear hi)))
       go_meet
       case rel => exact ⟨_, (t307), (1), (wrap64 (t304 - 3)), ((⟨#[]⟩ : ByteArray)), H', ⟨by have := HJ11.out; first | omega | exact Nat.le_refl _⟩, ⟨by (with_reducible repeat (first | refine zX ?_ _ | refine zY ?_ | refine zZ ?_ _)); exact BK300.out⟩, ⟨by (with_reducible repeat (first | refine zX ?_ _ | refine zY ?_ | refine zZ ?_ _)); exact BK301.out⟩, ⟨by repeat (first | (with_reducible first | exact HI0.out | apply IsS69.alloc | apply IsS69.drewN | apply IsS69.drew | apply IsS69.set_1 | refine IsS69.far ?_ NB0_300.out _ | refine IsS69.far ?_ NB0_301.out _) | exact HI0.out)⟩, ⟨by repeat (first | (with_reducible first | exact HK.out | apply KeepBut.set_ | apply keep_drewN | apply keep_drew | apply keep_alloc | refine keep_far ?_ GW300.out _ | refine keep_far ?_ GW301.out _) | exact HK.out)⟩, ⟨by repeat (first | (with_reducible first | exact HB.out | apply zU | apply zV | apply zW | refine zH ?_ (IsS69.ge HI0.out) | refine zH ?_ GE300.out | refine zH ?_ GE301.out) | exact HB.out)⟩⟩
     ·
      replace c15 := Bool.eq_false_iff.mpr c15
      subst c15
      have H1 : (if t302 = 4 then (spec_l20Value.j1 kj11 a1 (t302 == 4) s0_0 t303) else (spec_l20Value.j1 kj11 a1 (t302 == 5) s0_0 t303)) = some (r1, r2, r3, r4) := by rw [if_neg (show ¬ (false = true) by decide)] at H; exact H
      clear H
      have H := H1
      clear H1
      have HC37 := zM H
      clear H
      go_upto_if 32 with (fail)
      go_cut [32] (fun v32 wc => ∃ (kq : Nat) (x32_36 : Bool), v32 = .bool x32_36 ∧ Aside0 (spec_l20Value.j1 kq a1 x32_36 s0_0 t303 = some (r1, r2, r3, r4)) ∧ Aside0 (kq ≤ kj11) ∧ Aside0 (wc.heap[gb300]? = some (.cells #[.int .i64 0, .int .i64 0, .string (⟨#[]⟩ : ByteArray)] 27 (0, 0))) ∧ Aside0 (wc.heap[gb301]? = some (.cells #[.int .i64 0, .int .i64 0, .string (⟨#[]⟩ : ByteArray)] 27 (0, 0))) ∧ Aside0 (IsS69 w0 wc g s0_0 t303) ∧ Aside0 (KeepBut w wc g none) ∧ Aside0 (Below w0.heap.size w0 wc))
      case first =>
       have H := HC37.out
       clear HC37
       by_cases c38 : t302 = 4
       ·
        rw [if_pos c38] at H
        have c38b0 : (t302 == 4) = true := beq_iff_eq.mpr c38
        have c38b1 : (t302 != 4) = false := bne_eq_false_iff_eq.mpr c38
        clear c38
        (first | rw [c38b0] | (simp only [i64_w, i32_w]; rw [c38b0]) | skip)
        have H' := zM H
        clear H
        go_wp2
        go_meet
        case rel => exact ⟨_, ((t302 == 4)), (by first | rfl | (simp; done) | (simp [*]; done)), H', ⟨by have := HJ11.out; first | omega | exact Nat.le_refl _⟩, ⟨by (with_reducible repeat (first | refine zX ?_ _ | refine zY ?_ | refine zZ ?_ _)); exact BK300.out⟩, ⟨by (with_reducible repeat (first | refine zX ?_ _ | refine zY ?_ | refine zZ ?_ _)); exact BK301.out⟩, ⟨by repeat (first | (with_reducible first | exact HI0.out | apply IsS69.alloc | apply IsS69.drewN | apply IsS69.drew | apply IsS69.set_1 | refine IsS69.far ?_ NB0_300.out _ | refine IsS69.far ?_ NB0_301.out _) | exact HI0.out)⟩, ⟨by repeat (first | (with_reducible first | exact HK.out | apply KeepBut.set_ | apply keep_drewN | apply keep_drew | apply keep_alloc | refine keep_far ?_ GW300.out _ | refine keep_far ?_ GW301.out _) | exact HK.out)⟩, ⟨by repeat (first | (with_reducible first | exact HB.out | apply zU | apply zV | apply zW | refine zH ?_ (IsS69.ge HI0.out) | refine zH ?_ GE300.out | refine zH ?_ GE301.out) | exact HB.out)⟩⟩
       ·
        rw [if_neg c38] at H
        have c38b0 : (t302 == 4) = false := beq_eq_false_iff_ne.mpr c38
        have c38b1 : (t302 != 4) = true := bne_iff_ne.mpr c38
        (first | rw [c38b0] | (simp only [i64_w, i32_w]; rw [c38b0]) | skip)
        have H' := zM H
        clear H
        go_wp2
        go_meet
        case rel => exact ⟨_, ((t302 == 5)), (by first | rfl | (simp; done) | (simp [*]; done)), H', ⟨by have := HJ11.out; first | omega | exact Nat.le_refl _⟩, ⟨by (with_reducible repeat (first | refine zX ?_ _ | refine zY ?_ | refine zZ ?_ _)); exact BK300.out⟩, ⟨by (with_reducible repeat (first | refine zX ?_ _ | refine zY ?_ | refine zZ ?_ _)); exact BK301.out⟩, ⟨by repeat (first | (with_reducible first | exact HI0.out | apply IsS69.alloc | apply IsS69.drewN | apply IsS69.drew | apply IsS69.set_1 | refine IsS69.far ?_ NB0_300.out _ | refine IsS69.far ?_ NB0_301.out _) | exact HI0.out)⟩, ⟨by repeat (first | (with_reducible first | exact HK.out | apply KeepBut.set_ | apply keep_drewN | apply keep_drew | apply keep_alloc | refine keep_far ?_ GW300.out _ | refine keep_far ?_ GW301.out _) | exact HK.out)⟩, ⟨by repeat (first | (with_reducible first | exact HB.out | apply zU | apply zV | apply zW | refine zH ?_ (IsS69.ge HI0.out) | refine zH ?_ GE300.out | refine zH ?_ GE301.out) | exact HB.out)⟩⟩
      case rest =>
       clear HC37
       try clear c1
       try clear c2
       try clear p2
       try clear c3
       try clear p3
       try clear q3
       try clear hx3
       try clear c5
       try clear p6
       try clear c7
       try clear c8
       try clear c11
       try clear c11b0
       try clear c11b1
       try clear c13
       try clear c13b0
       try clear c13b1
       try clear c14
       try clear c14b0
       try clear c14b1
       try clear c15
       try clear c18
       try clear c18b0
       try clear c18b1
       try clear c20
       try clear c20b0
       try clear c21
       try clear c21b0
       try clear c23
       try clear c24
       try clear p31
       try clear q31
       try clear hx31
       try clear c33
       try clear c34
       try clear c38
       try clear c38b0
       try clear c38b1
       try clear hcz25_0
       try clear hcz25_1
       try clear hcz25_2
       try clear hcz31_0
       try clear hcz31_1
       try clear hcz31_2
       try clear hcz35_0
       try clear hcz35_1
       try clear hcz35_2
       try clear hcz9_0
       try clear hcz9_1
       try clear hcz9_2
       try clear hfz25_0
       try clear hfz25_1
       try clear hfz25_2
       try clear hfz31_0
       try clear hfz31_1
       try clear hfz31_2
       try clear hfz35_0
       try clear hfz35_1
       try clear hfz35_2
       try clear hfz9_0
       try clear hfz9_1
       try clear hfz9_2
       try clear hx313_0
       try clear p2
       try clear p313
       try clear q313
       obtain ⟨kq, x32_36, rfl, HA, HJ36, BK300, BK301, HI0, HK, HB⟩ := hcut
       cases kq with
       | zero => exact absurd HA.out (by simp [spec_l20Value.j1])
       | succ kj36 =>
        have H := HA.out
        clear HA
        simp only [spec_l20Value.j1] at H
        by_cases c39 : x32_36 = true
        ·
         subst c39
         have H1 : ((spec_l20Rd_pick.f kj36 s0_0 t303 4).bind fun bt314 => (spec_l20Value.l0 kj36 a1 bt314.1 s0_0 bt314.2 2 0 (⟨#[]⟩ : ByteArray))) = some (r1, r2, r3, r4) := by rw [if_pos rfl] at H; exact H
         clear H
         have H := H1
         clear H1
         replace H := Option.bind_eq_some_iff.mp H
         obtain ⟨⟨t314, t315⟩, A400, H⟩ := H
         replace H : (spec_l20Value.l0 kj36 a1 t314 s0_0 t315 2 0 (⟨#[]⟩ : ByteArray)) = some (r1, r2, r3, r4) := H
         have A40 := zM A400
         clear A400
         have H' := zM H
         clear H
         have hnb41 := NB301_300.out
         have hnc41 := NB300_301.out
         have hnb42 := NB301_0.out
         have hnc42 := NB0_301.out
         have hcz43_0 : wc.cell? ⟨gb301, 0, none⟩ = some (.int .i64 0) := (zK BK301.out 0).trans rfl
         have hcz43_1 : wc.cell? ⟨gb301, 1, none⟩ = some (.int .i64 0) := (zK BK301.out 1).trans rfl
         have hcz43_2 : wc.cell? ⟨gb301, 2, none⟩ = some (.string (⟨#[]⟩ : ByteArray)) := (zK BK301.out 2).trans rfl
         have hfz43_0 := zF BK301.out 0
         have hfz43_1 := zF BK301.out 1
         have hfz43_2 := zF BK301.out 2
         go_wp2_with (first | ((with_reducible refine gate_callee (f := 57) rfl ?_); refine goesL_ (some 37) rfl rfl Try.func57 (by kernel_rfl) rfl #[.pointer (some ⟨g, 0, none⟩), .int .i64 4] rfl (by (try simp only [List.map_toArray, List.map_cons, List.map_nil]); first | done | rfl | (simp only [List.length_drop, List.length_take]; rfl)) ?_; (with_reducible refine (spec_l20Rd_pick.calls kj36 g s0_0 t303 4 t314 t315 w0 _ ?side1 ?side2 A40.out).mono ?_); (case side1 => repeat (first | (with_reducible first | exact HI0.out | apply IsS69.alloc | apply IsS69.drewN | apply IsS69.drew | apply IsS69.set_1 | refine IsS69.far ?_ NB0_300.out _ | refine IsS69.far ?_ NB0_301.out _) | exact HI0.out)); (case side2 => repeat (first | (with_reducible first | exact HB.out | apply zU | apply zV | apply zW | refine zH ?_ (IsS69.ge HI0.out) | refine zH ?_ GE300.out | refine zH ?_ GE301.out) | exact HB.out)); rintro e w44 ⟨rfl, hi, hb, hk⟩; refine ⟨_, rfl, ?_⟩; have n0_ := zM (KeepBut.blk hk (g' := gb300) (o := .cells #[.int .i64 0, .int .i64 0, .string (⟨#[]⟩ : ByteArray)] 27 (0, 0)) (by (with_reducible repeat (first | refine zX ?_ _ | refine zY ?_ | refine zZ ?_ _)); refine blk_far ?_ NB300_301.out _; (with_reducible repeat (first | refine zX ?_ _ | refine zY ?_ | refine zZ ?_ _)); refine blk_far ?_ NB300_301.out _; (with_reducible repeat (first | refine zX ?_ _ | refine zY ?_ | refine zZ ?_ _)); refine blk_far ?_ NB300_301.out _; (with_reducible repeat (first | refine zX ?_ _ | refine zY ?_ | refine zZ ?_ _)); exact BK300.out) NB300_0.out (by simp)); have n1_ := zM (KeepBut.blk hk (g' := gb301) (o := .cells #[.int .i64 2, .int .i64 0, .string (⟨#[]⟩ : ByteArray)] 27 (0, 0)) (by (with_reducible repeat (first | refine zX ?_ _ | refine zY ?_ | refine zZ ?_ _)); refine blk_put (cs := #[.int .i64 2, .int .i64 0, .string (⟨#[]⟩ : ByteArray)]) ?_ 2 _ rfl; (with_reducible repeat (first | refine zX ?_ _ | refine zY ?_ | refine zZ ?_ _)); refine blk_put (cs := #[.int .i64 2, .int .i64 0, .string (⟨#[]⟩ : ByteArray)]) ?_ 1 _ rfl; (with_reducible repeat (first | refine zX ?_ _ | refine zY ?_ | refine zZ ?_ _)); refine blk_put (cs := #[.int .i64 0, .int .i64 0, .string (⟨#[]⟩ : ByteArray)]) ?_ 0 _ rfl; (with_reducible repeat (first | refine zX ?_ _ | refine zY ?_ | refine zZ ?_ _)); exact BK301.out) NB301_0.out (by simp)); have n2_ := zM (KeepBut.trans (by repeat (first | (with_reducible first | exact HK.out | apply KeepBut.set_ | apply keep_drewN | apply keep_drew | apply keep_alloc | refine keep_far ?_ GW300.out _ | refine keep_far ?_ GW301.out _) | exact HK.out)) hk (.inl rfl)); have n3_ := zM (hb); have n4_ := zM (hi); clear BK300; clear BK301; clear HK; clear HB; clear HI0; have BK300 := n0_; have BK301 := n1_; have HK := n2_; have HB := n3_; have HI0 := n4_; clear n0_ n1_ n2_ n3_ n4_; (try clear hb); (try clear hb2); (try clear hk); (try clear hi)))
         go_loopg [6] kj36 (fun kq v6 w' => ∃ (x6_3 : Int) (x1001_3 : Int) (x302002_3 : ByteArray), v6 = .int .i64 x6_3 ∧ Aside0 (spec_l20Value.l0 kq a1 x6_3 s0_0 x1001_3 2 0 x302002_3 = some (r1, r2, r3, r4)) ∧ Aside0 (kq ≤ kj36) ∧ Aside0 (w'.heap[gb300]? = some (.cells #[.int .i64 0, .int .i64 0, .string (⟨#[]⟩ : ByteArray)] 27 (0, 0))) ∧ Aside0 (w'.heap[gb301]? = some (.cells #[.int .i64 2, .int .i64 0, .string x302002_3] 27 (0, 0))) ∧ Aside0 (IsS69 w0 w' g s0_0 x1001_3) ∧ Aside0 (KeepBut w w' g none) ∧ Aside0 (Below w0.heap.size w0 w'))
         case atStart => exact ⟨(t314), (t315), ((⟨#[]⟩ : ByteArray)), (by first | rfl | (simp; done) | (simp [*]; done)), H', ⟨Nat.le_refl _⟩, ⟨by (with_reducible repeat (first | refine zX ?_ _ | refine zY ?_ | refine zZ ?_ _)); exact BK300.out⟩, ⟨by (with_reducible repeat (first | refine zX ?_ _ | refine zY ?_ | refine zZ ?_ _)); exact BK301.out⟩, ⟨by repeat (first | (with_reducible first | exact HI0.out | apply IsS69.alloc | apply IsS69.drewN | apply IsS69.drew | apply IsS69.set_1 | refine IsS69.far ?_ NB0_300.out _ | refine IsS69.far ?_ NB0_301.out _) | exact HI0.out)⟩, ⟨by repeat (first | (with_reducible first | exact HK.out | apply KeepBut.set_ | apply keep_drewN | apply keep_drew | apply keep_alloc | refine keep_far ?_ GW300.out _ | refine keep_far ?_ GW301.out _) | exact HK.out)⟩, ⟨by repeat (first | (with_reducible first | exact HB.out | apply zU | apply zV | apply zW | refine zH ?_ (IsS69.ge HI0.out) | refine zH ?_ GE300.out | refine zH ?_ GE301.out) | exact HB.out)⟩⟩
         case round =>
          clear H'
          try clear c1
          try clear c2
          try clear p2
          try clear c3
          try clear p3
          try clear q3
          try clear hx3
          try clear c4
          try clear c5
          try clear p6
          try clear c7
          try clear c8
          try clear c11
          try clear c11b0
          try clear c11b1
          try clear c13
          try clear c13b0
          try clear c13b1
          try clear c14
          try clear c14b0
          try clear c14b1
          try clear c15
          try clear c18
          try clear c18b0
          try clear c18b1
          try clear c20
          try clear c20b0
          try clear c21
          try clear c21b0
          try clear c23
          try clear c24
          try clear p31
          try clear q31
          try clear hx31
          try clear c33
          try clear c34
          try clear c38
          try clear c38b0
          try clear c38b1
          try clear c39
          try clear c41
          try clear c42
          try clear hcz25_0
          try clear hcz25_1
          try clear hcz25_2
          try clear hcz31_0
          try clear hcz31_1
          try clear hcz31_2
          try clear hcz35_0
          try clear hcz35_1
          try clear hcz35_2
          try clear hcz43_0
          try clear hcz43_1
          try clear hcz43_2
          try clear hcz9_0
          try clear hcz9_1
          try clear hcz9_2
          try clear hfz25_0
          try clear hfz25_1
          try clear hfz25_2
          try clear hfz31_0
          try clear hfz31_1
          try clear hfz31_2
          try clear hfz35_0
          try clear hfz35_1
          try clear hfz35_2
          try clear hfz43_0
          try clear hfz43_1
          try clear hfz43_2
          try clear hfz9_0
          try clear hfz9_1
          try clear hfz9_2
          try clear hx313_0
          try clear p2
          try clear p3
          try clear p31
          try clear p313
          try clear p6
          try clear q3
          try clear q31
          try clear q313
          obtain ⟨x6_3, x1001_3, x302002_3, rfl, HA, HK3, BK300, BK301, HI0, HK, HB⟩ := hrel
          cases gk with
          | zero => exact absurd HA.out (by simp [spec_l20Value.l0])
          | succ k3 =>
           have H := HA.out
           clear HA
           simp only [spec_l20Value.l0] at H
           by_cases c45 : x6_3 > 0
           ·
            rw [if_pos c45] at H
            have c45b0 : decide (0 < x6_3) = true := decide_eq_true c45
            clear c45
            replace H := Option.bind_eq_some_iff.mp H
            obtain ⟨⟨t316, t317⟩, A460, H⟩ := H
            replace H : ((some (([(wrap64 (97 + t316)) % 256] : List Int) : List Int)).bind fun y318 => (if x302002_3.size + (strOfNums y318).size ≤ 9223372036854775807 then (spec_l20Value.l0 k3 a1 (wrap64 (x6_3 - 1)) s0_0 t317 2 0 (x302002_3 ++ (strOfNums y318))) else (none))) = some (r1, r2, r3, r4) := H
            have A46 := zM A460
            clear A460
            obtain ⟨y318, hy318⟩ : ∃ y_ : List Int, y_ = (([(wrap64 (97 + t316)) % 256] : List Int)) := ⟨_, rfl⟩
            replace H : (if x302002_3.size + (strOfNums y318).size ≤ 9223372036854775807 then (spec_l20Value.l0 k3 a1 (wrap64 (x6_3 - 1)) s0_0 t317 2 0 (x302002_3 ++ (strOfNums y318))) else (none)) = some (r1, r2, r3, r4) := by first | (rw [hy318]; with_reducible exact H) | (have H2_ := (Option.bind_some _ _).symm.trans H; rw [hy318]; with_reducible exact H2_) | (have H2_ := (Option.bind_some _ _).symm.trans H; with_reducible exact H2_) | with_reducible exact H | (rw [hy318]; exact H) | exact H
            have Ny318 := zM hy318
            clear hy318
            by_cases c47 : x302002_3.size + (strOfNums y318).size ≤ 9223372036854775807
            ·
             rw [if_pos c47] at H
             have c47b0 := eq_true c47
             have c47b1 : decide (x302002_3.size + (strOfNums y318).size ≤ 9223372036854775807) = true := decide_eq_true c47
             try have c47b2 : (9223372036854775807 < x302002_3.size + (strOfNums y318).size) = False := eq_false (Nat.not_lt.2 c47)
             have H' := zM H
             clear H
             try go_wp2
             have n0_ := zM (zY BK300.out)
             have n1_ := zM (zY BK301.out)
             have n2_ := zM (IsS69.drew HI0.out)
             have n3_ := zM (keep_drew HK.out)
             have n4_ := zM (zW HB.out)
             clear BK300
             clear BK301
             clear HI0
             clear HK
             clear HB
             have BK300 := n0_
             have BK301 := n1_
             have HI0 := n2_
             have HK := n3_
             have HB := n4_
             clear n0_ n1_ n2_ n3_ n4_
             refine start_ (n := 11) (S := fun w' => w'.cell? ⟨gb301, 0, none⟩ = some (.int .i64 2) ∧ w'.cell? ⟨gb301, 1, none⟩ = some (.int .i64 0) ∧ w'.cell? ⟨gb301, 2, none⟩ = some (.string x302002_3)) (ds := [10]) #[false, false, false, false, false, false, false, false, false, false, false] (by kernel_rfl) rfl rfl ⟨(zK BK301.out 0).trans rfl, (zK BK301.out 1).trans rfl, (zK BK301.out 2).trans rfl⟩ (fun hHeld => ?_); refine with_tabW spec_l20Value.tab17 spec_l20Value.bits17 (fun HT_ HW_ => ?_)
             generalize wr.drew = w48 at BK300 BK301 HI0 HK HB hHeld ⊢
             refine pure_ (i := 0) (N := some 42) (v := ?_) (a' := ?_) #[true, false, false, false, false, false, false, false, false, false, false] rfl rfl (any_of HT_.out (by kernel_rfl)) (fun _ _ _ h => h) (Or.inl ⟨by rfl, ?_⟩) ?_ ?_
             rotate_left
             ·
              intro w'
              go_simp
              with_reducible rfl
             rotate_left
             ·
              simp only [Act.put, zA, zB, zC, i64_w, i32_w]
              rfl
             refine pure_ (i := 2) (N := some 44) (v := ?_) (a' := ?_) #[true, false, true, false, false, false, false, false, false, false, false] rfl rfl (any_of HT_.out (by kernel_rfl)) (fun _ _ _ h => h) (Or.inl ⟨by rfl, ?_⟩) ?_ ?_
             rotate_left
             ·
              intro w'
              go_simp
              with_reducible rfl
             rotate_left
             ·
              simp only [Act.put, zA, zB, zC, i64_w, i32_w]
              rfl
             refine take_ (i := 1) (N := some 43) (v := ?_) (a' := ?_) #[true, true, true, false, false, false, false, false, false, false, false] rfl rfl (take_ofW HT_.out HW_.out (by kernel_rfl)) (fun _ _ _ h => h) (Or.inl ⟨by rfl, ?_⟩) hHeld ?_ ?_
             rotate_left
             ·
              rintro w' ⟨s0, s1, s2⟩
              go_simp
              with_reducible rfl
             rotate_left
             ·
              simp only [Act.put, zA, zB, zC, i64_w, i32_w]
              rfl
             refine one_ (i := 3) (N := some 45) #[true, true, true, true, false, false, false, false, false, false, false] rfl rfl (one_of HT_.out (by kernel_rfl)) (by decide) (fun K hK => ?_)
             refine goes_ Try.func57 (by kernel_rfl) rfl #[.pointer (some ⟨g, 0, none⟩), .int .i64 3] (by rfl) rfl rfl (by (try simp only [List.map_toArray, List.map_cons, List.map_nil]); first | done | rfl | (simp only [List.length_drop, List.length_take]; rfl)) ?_
             with_reducible refine (spec_l20Rd_pick.calls k3 g s0_0 x1001_3 3 t316 t317 w0 _ ?side1 ?side2 A46.out).mono ?_
             (case side1 => repeat (first | (with_reducible first | exact HI0.out | apply IsS69.alloc | apply IsS69.drewN | apply IsS69.drew | apply IsS69.set_1 | refine IsS69.far ?_ NB0_300.out _ | refine IsS69.far ?_ NB0_301.out _) | exact HI0.out))
             (case side2 => repeat (first | (with_reducible first | exact HB.out | apply zU | apply zV | apply zW | refine zH ?_ (IsS69.ge HI0.out) | refine zH ?_ GE300.out | refine zH ?_ GE301.out) | exact HB.out))
             rintro e w49 ⟨rfl, hi, hb, hk⟩
             refine ⟨_, rfl, ?_⟩
             have n0_ := zM (KeepBut.blk hk (g' := gb300) (o := .cells #[.int .i64 0, .int .i64 0, .string (⟨#[]⟩ : ByteArray)] 27 (0, 0)) (by (with_reducible repeat (first | refine zX ?_ _ | refine zY ?_ | refine zZ ?_ _)); exact BK300.out) NB300_0.out (by simp))
             have n1_ := zM (KeepBut.blk hk (g' := gb301) (o := .cells #[.int .i64 2, .int .i64 0, .string x302002_3] 27 (0, 0)) (by (with_reducible repeat (first | refine zX ?_ _ | refine zY ?_ | refine zZ ?_ _)); exact BK301.out) NB301_0.out (by simp))
             have n2_ := zM (KeepBut.trans (by repeat (first | (with_reducible first | exact HK.out | apply KeepBut.set_ | apply keep_drewN | apply keep_drew | apply keep_alloc | refine keep_far ?_ GW300.out _ | refine keep_far ?_ GW301.out _) | exact HK.out)) hk (.inl rfl))
             have n3_ := zM (hb)
             have n4_ := zM (hi)
             clear BK300
             clear BK301
             clear HK
             clear HB
             clear HI0
             have BK300 := n0_
             have BK301 := n1_
             have HK := n2_
             have HB := n3_
             have HI0 := n4_
             clear n0_ n1_ n2_ n3_ n4_
             (try clear hb)
             (try clear hb2)
             (try clear hk)
             (try clear hi)
             refine hK.out _ _ ⟨(zK BK301.out 0).trans rfl, (zK BK301.out 1).trans rfl, (zK BK301.out 2).trans rfl⟩ (fun hHeld => ?_)
             clear hK K
             refine norm_ (a' := ?_) ?_ ?_
             rotate_left
             ·
              show Act.put _ (some 45) _ = _
              simp only [Act.put, zA, zB, zC, i64_w, i32_w]
              rfl
             refine pure_ (i := 4) (N := some 46) (v := ?_) (a' := ?_) #[true, true, true, true, true, false, false, false, false, false, false] rfl rfl (any_of HT_.out (by kernel_rfl)) (fun _ _ _ h => h) (Or.inl ⟨by rfl, ?_⟩) ?_ ?_
             rotate_left
             ·
              intro w'
              go_simp
              with_reducible rfl
             rotate_left
             ·
              simp only [Act.put, zA, zB, zC, i64_w, i32_w]
              rfl
             refine pure_ (i := 5) (N := some 47) (v := ?_) (a' := ?_) #[true, true, true, true, true, true, false, false, false, false, false] rfl rfl (any_of HT_.out (by kernel_rfl)) (fun _ _ _ h => h) (Or.inl ⟨by rfl, ?_⟩) ?_ ?_
             rotate_left
             ·
              intro w'
              go_simp
              with_reducible rfl
             rotate_left
             ·
              simp only [Act.put, zA, zB, zC, i64_w, i32_w]
              rfl
             refine one_ (i := 6) (N := some 48) #[true, true, true, true, true, true, true, false, false, false, false] rfl rfl (one_of HT_.out (by kernel_rfl)) (by decide) (fun K hK => ?_)
             refine Kd.R_lit_step (Kd.int .u8) _ 5 ?hg (N := 48) ?hd (xs := ([(wrap64 (97 + t316)) % 256] : List Int)) (inner := [.int .u8 ((wrap64 (97 + t316)) % 256)]) (ok := fun _ => True) (okp := fun _ => True) ?hr ?hp (fun _ hk => hk) trivial (Below.refl _ _) (Nat.le_refl _) (by simp) ?_; (case hd => rfl); (case hg => rfl); (case hr => first | (go_simp; done) | (go_simp; rfl)); (case hp => exact (Reps.one (show Kd.M (Kd.int .u8) _ _ _ ((wrap64 (97 + t316)) % 256) [.int .u8 ((wrap64 (97 + t316)) % 256)] from rfl) (Reps.none _ _)))
             intro v319 w50 ho51 hb hg_ hnew_
             clear hg_ hnew_
             (first | rw [← Ny318.out] at ho51 | (simp only [Int.reduceToNat] at ho51; rw [← Ny318.out] at ho51))
             have n0_ := zM (Kd.R_lower ho51 (keep_size (w := w) (g := g) (row := none) (by repeat (first | (with_reducible first | exact HK.out | apply KeepBut.set_ | apply keep_drewN | apply keep_drew | apply keep_alloc | refine keep_far ?_ GW300.out _ | refine keep_far ?_ GW301.out _) | exact HK.out))))
             have n1_ := zM (zJ (g := gb300) (o := .cells #[.int .i64 0, .int .i64 0, .string (⟨#[]⟩ : ByteArray)] 27 (0, 0)) (by (with_reducible repeat (first | refine zX ?_ _ | refine zY ?_ | refine zZ ?_ _)); exact BK300.out) hb)
             have n2_ := zM (zJ (g := gb301) (o := .cells #[.int .i64 2, .int .i64 0, .string x302002_3] 27 (0, 0)) (by (with_reducible repeat (first | refine zX ?_ _ | refine zY ?_ | refine zZ ?_ _)); exact BK301.out) hb)
             have n3_ := zM (IsS69.below (by repeat (first | (with_reducible first | exact HI0.out | apply IsS69.alloc | apply IsS69.drewN | apply IsS69.drew | apply IsS69.set_1 | refine IsS69.far ?_ NB0_300.out _ | refine IsS69.far ?_ NB0_301.out _) | exact HI0.out)) hb)
             have n4_ := zM (KeepBut.trans (by repeat (first | (with_reducible first | exact HK.out | apply KeepBut.set_ | apply keep_drewN | apply keep_drew | apply keep_alloc | refine keep_far ?_ GW300.out _ | refine keep_far ?_ GW301.out _) | exact HK.out)) (KeepBut.of_below hb g none) (.inl rfl))
             have n5_ := zM (zG (by repeat (first | (with_reducible first | exact HB.out | apply zU | apply zV | apply zW | refine zH ?_ (IsS69.ge HI0.out) | refine zH ?_ GE300.out | refine zH ?_ GE301.out) | exact HB.out)) hb)
             clear BK300
             clear BK301
             clear HI0
             clear HK
             clear HB
             have HO320 := n0_
             have BK300 := n1_
             have BK301 := n2_
             have HI0 := n3_
             have HK := n4_
             have HB := n5_
             clear n0_ n1_ n2_ n3_ n4_ n5_
             clear hb ho51
             refine hK.out _ _ ⟨(zK BK301.out 0).trans rfl, (zK BK301.out 1).trans rfl, (zK BK301.out 2).trans rfl⟩ (fun hHeld => ?_)
             clear hK K
             refine norm_ (a' := ?_) ?_ ?_
             rotate_left
             ·
              show Act.put _ (some 48) _ = _
              simp only [Act.put, zA, zB, zC, i64_w, i32_w]
              rfl
             refine one_ (i := 7) (N := some 49) #[true, true, true, true, true, true, true, true, false, false, false] rfl rfl (one_of HT_.out (by kernel_rfl)) (by decide) (fun K hK => ?_)
             have hcv52 := own_string (P := Try.prog) Try.underlying25 Try.underlying5 Try.underlying9 (Kd.own_of_R HO320.out)
             refine value_ (w1 := ?_) (v := ?_) (by rfl) rfl ?_ ?_
             rotate_left 2
             ·
              go_simp
              constructor
              ·
               rfl
              ·
               rfl
             clear hcv52
             refine hK.out _ _ ⟨(zK BK301.out 0).trans rfl, (zK BK301.out 1).trans rfl, (zK BK301.out 2).trans rfl⟩ (fun hHeld => ?_)
             clear hK K
             refine norm_ (a' := ?_) ?_ ?_
             rotate_left
             ·
              show Act.put _ (some 49) _ = _
              simp only [Act.put, zA, zB, zC, i64_w, i32_w]
              rfl
             refine pure_ (i := 8) (N := some 50) (v := ?_) (a' := ?_) #[true, true, true, true, true, true, true, true, true, false, false] rfl rfl (any_of HT_.out (by kernel_rfl)) (fun _ _ _ h => h) (Or.inl ⟨by rfl, ?_⟩) ?_ ?_
             rotate_left
             ·
              intro w'
              go_simp
              with_reducible rfl
             rotate_left
             ·
              simp only [Act.put, zA, zB, zC, i64_w, i32_w]
              rfl
             refine pure_ (i := 9) (N := some 51) (v := ?_) (a' := ?_) #[true, true, true, true, true, true, true, true, true, true, false] rfl rfl (any_of HT_.out (by kernel_rfl)) (fun _ _ _ h => h) (Or.inl ⟨by rfl, ?_⟩) ?_ ?_
             rotate_left
             ·
              intro w'
              go_simp
              with_reducible rfl
             rotate_left
             ·
              simp only [Act.put, zA, zB, zC, i64_w, i32_w]
              rfl
             refine last_ (i := 10) (N := none) #[true, true, true, true, true, true, true, true, true, true, true] rfl rfl (one_of HT_.out (by kernel_rfl)) (by decide) (fun K hK => ?_)
             have hs53 : w50.cell? ⟨gb301, 2, none⟩ = some (.string x302002_3) := (zK BK301.out 2).trans rfl
             have hfs53 := zF BK301.out 2
             have hns53_0 := NB300_301.out
             have hms53_0 := NB301_300.out
             refine skip_ (w1 := ?_) (by rfl) rfl ?_ ?_
             rotate_left
             ·
              go_simp
              rfl
             refine hK.out _ _ ?_
             clear hK K
             refine done_ (done_of HT_.out (by kernel_rfl)) ?_
             try go_wp2
             go_roundg k3
             case measure => have := HJ11.out; have := HJ36.out; have := HK3.out; omega
             case rel => exact ⟨(wrap64 (x6_3 - 1)), (t317), (x302002_3 ++ (strOfNums y318)), (by first | rfl | (simp; done) | (simp [*]; done)), H', ⟨by have := HJ11.out; have := HJ36.out; have := HK3.out; omega⟩, ⟨by (with_reducible repeat (first | refine zX ?_ _ | refine zY ?_ | refine zZ ?_ _)); refine blk_far ?_ NB300_301.out _; (with_reducible repeat (first | refine zX ?_ _ | refine zY ?_ | refine zZ ?_ _)); exact BK300.out⟩, ⟨by (with_reducible repeat (first | refine zX ?_ _ | refine zY ?_ | refine zZ ?_ _)); refine blk_put (cs := #[.int .i64 2, .int .i64 0, .string x302002_3]) ?_ 2 _ rfl; (with_reducible repeat (first | refine zX ?_ _ | refine zY ?_ | refine zZ ?_ _)); exact BK301.out⟩, ⟨by repeat (first | (with_reducible first | exact HI0.out | apply IsS69.alloc | apply IsS69.drewN | apply IsS69.drew | apply IsS69.set_1 | refine IsS69.far ?_ NB0_300.out _ | refine IsS69.far ?_ NB0_301.out _) | exact HI0.out)⟩, ⟨by repeat (first | (with_reducible first | exact HK.out | apply KeepBut.set_ | apply keep_drewN | apply keep_drew | apply keep_alloc | refine keep_far ?_ GW300.out _ | refine keep_far ?_ GW301.out _) | exact HK.out)⟩, ⟨by repeat (first | (with_reducible first | exact HB.out | apply zU | apply zV | apply zW | refine zH ?_ (IsS69.ge HI0.out) | refine zH ?_ GE300.out | refine zH ?_ GE301.out) | exact HB.out)⟩⟩
            ·
             rw [if_neg c47] at H
             exact absurd H (by simp)
           ·
            rw [if_neg c45] at H
            have c45b0 : decide (0 < x6_3) = false := decide_eq_false c45
            clear c45
            have H' := zM H
            clear H
            go_wp2
            go_meet
            case rel => exact ⟨_, (x1001_3), (2), (0), (x302002_3), H', ⟨by have := HJ11.out; have := HJ36.out; have := HK3.out; first | omega | exact Nat.le_refl _⟩, ⟨by (with_reducible repeat (first | refine zX ?_ _ | refine zY ?_ | refine zZ ?_ _)); exact BK300.out⟩, ⟨by (with_reducible repeat (first | refine zX ?_ _ | refine zY ?_ | refine zZ ?_ _)); exact BK301.out⟩, ⟨by repeat (first | (with_reducible first | exact HI0.out | apply IsS69.alloc | apply IsS69.drewN | apply IsS69.drew | apply IsS69.set_1 | refine IsS69.far ?_ NB0_300.out _ | refine IsS69.far ?_ NB0_301.out _) | exact HI0.out)⟩, ⟨by repeat (first | (with_reducible first | exact HK.out | apply KeepBut.set_ | apply keep_drewN | apply keep_drew | apply keep_alloc | refine keep_far ?_ GW300.out _ | refine keep_far ?_ GW301.out _) | exact HK.out)⟩, ⟨by repeat (first | (with_reducible first | exact HB.out | apply zU | apply zV | apply zW | refine zH ?_ (IsS69.ge HI0.out) | refine zH ?_ GE300.out | refine zH ?_ GE301.out) | exact HB.out)⟩⟩
        ·
         replace c39 := Bool.eq_false_iff.mpr c39
         subst c39
         have H1 : ((spec_l20Rd_pick.f kj36 s0_0 t303 2).bind fun bt321 => (spec_l20Value.j3 kj36 a1 s0_0 bt321.2 3 bt321.1 (⟨#[]⟩ : ByteArray))) = some (r1, r2, r3, r4) := by rw [if_neg (show ¬ (false = true) by decide)] at H; exact H
         clear H
         have H := H1
         clear H1
         replace H := Option.bind_eq_some_iff.mp H
         obtain ⟨⟨t321, t322⟩, A540, H⟩ := H
         replace H : (spec_l20Value.j3 kj36 a1 s0_0 t322 3 t321 (⟨#[]⟩ : ByteArray)) = some (r1, r2, r3, r4) := H
         have A54 := zM A540
         clear A540
         have H' := zM H
         clear H
         go_wp2_with (first | ((with_reducible refine gate_callee (f := 57) rfl ?_); refine goesL_ (some 11) rfl rfl Try.func57 (by kernel_rfl) rfl #[.pointer (some ⟨g, 0, none⟩), .int .i64 2] rfl (by (try simp only [List.map_toArray, List.map_cons, List.map_nil]); first | done | rfl | (simp only [List.length_drop, List.length_take]; rfl)) ?_; (with_reducible refine (spec_l20Rd_pick.calls kj36 g s0_0 t303 2 t321 t322 w0 _ ?side1 ?side2 A54.out).mono ?_); (case side1 => repeat (first | (with_reducible first | exact HI0.out | apply IsS69.alloc | apply IsS69.drewN | apply IsS69.drew | apply IsS69.set_1 | refine IsS69.far ?_ NB0_300.out _ | refine IsS69.far ?_ NB0_301.out _) | exact HI0.out)); (case side2 => repeat (first | (with_reducible first | exact HB.out | apply zU | apply zV | apply zW | refine zH ?_ (IsS69.ge HI0.out) | refine zH ?_ GE300.out | refine zH ?_ GE301.out) | exact HB.out)); rintro e w55 ⟨rfl, hi, hb, hk⟩; refine ⟨_, rfl, ?_⟩; have n0_ := zM (KeepBut.blk hk (g' := gb300) (o := .cells #[.int .i64 0, .int .i64 0, .string (⟨#[]⟩ : ByteArray)] 27 (0, 0)) (by (with_reducible repeat (first | refine zX ?_ _ | refine zY ?_ | refine zZ ?_ _)); exact BK300.out) NB300_0.out (by simp)); have n1_ := zM (KeepBut.blk hk (g' := gb301) (o := .cells #[.int .i64 0, .int .i64 0, .string (⟨#[]⟩ : ByteArray)] 27 (0, 0)) (by (with_reducible repeat (first | refine zX ?_ _ | refine zY ?_ | refine zZ ?_ _)); exact BK301.out) NB301_0.out (by simp)); have n2_ := zM (KeepBut.trans (by repeat (first | (with_reducible first | exact HK.out | apply KeepBut.set_ | apply keep_drewN | apply keep_drew | apply keep_alloc | refine keep_far ?_ GW300.out _ | refine keep_far ?_ GW301.out _) | exact HK.out)) hk (.inl rfl)); have n3_ := zM (hb); have n4_ := zM (hi); clear BK300; clear BK301; clear HK; clear HB; clear HI0; have BK300 := n0_; have BK301 := n1_; have HK := n2_; have HB := n3_; have HI0 := n4_; clear n0_ n1_ n2_ n3_ n4_; (try clear hb); (try clear hb2); (try clear hk); (try clear hi); have hnb56 := NB301_300.out; have hnc56 := NB300_301.out; have hnb57 := NB301_0.out; have hnc57 := NB0_301.out; have hcz58_0 : w55.cell? ⟨gb301, 0, none⟩ = some (.int .i64 0) := (zK BK301.out 0).trans rfl; have hcz58_1 : w55.cell? ⟨gb301, 1, none⟩ = some (.int .i64 0) := (zK BK301.out 1).trans rfl; have hcz58_2 : w55.cell? ⟨gb301, 2, none⟩ = some (.string (⟨#[]⟩ : ByteArray)) := (zK BK301.out 2).trans rfl; have hfz58_0 := zF BK301.out 0; have hfz58_1 := zF BK301.out 1; have hfz58_2 := zF BK301.out 2))
         go_meet
         case rel => exact ⟨_, (t322), (3), (t321), ((⟨#[]⟩ : ByteArray)), H', ⟨by have := HJ11.out; have := HJ36.out; first | omega | exact Nat.le_refl _⟩, ⟨by (with_reducible repeat (first | refine zX ?_ _ | refine zY ?_ | refine zZ ?_ _)); refine blk_far ?_ NB300_301.out _; (with_reducible repeat (first | refine zX ?_ _ | refine zY ?_ | refine zZ ?_ _)); refine blk_far ?_ NB300_301.out _; (with_reducible repeat (first | refine zX ?_ _ | refine zY ?_ | refine zZ ?_ _)); refine blk_far ?_ NB300_301.out _; (with_reducible repeat (first | refine zX ?_ _ | refine zY ?_ | refine zZ ?_ _)); exact BK300.out⟩, ⟨by (with_reducible repeat (first | refine zX ?_ _ | refine zY ?_ | refine zZ ?_ _)); refine blk_put (cs := #[.int .i64 3, .int .i64 t321, .string (⟨#[]⟩ : ByteArray)]) ?_ 2 _ rfl; (with_reducible repeat (first | refine zX ?_ _ | refine zY ?_ | refine zZ ?_ _)); refine blk_put (cs := #[.int .i64 3, .int .i64 0, .string (⟨#[]⟩ : ByteArray)]) ?_ 1 _ rfl; (with_reducible repeat (first | refine zX ?_ _ | refine zY ?_ | refine zZ ?_ _)); refine blk_put (cs := #[.int .i64 0, .int .i64 0, .string (⟨#[]⟩ : ByteArray)]) ?_ 0 _ rfl; (with_reducible repeat (first | refine zX ?_ _ | refine zY ?_ | refine zZ ?_ _)); exact BK301.out⟩, ⟨by repeat (first | (with_reducible first | exact HI0.out | apply IsS69.alloc | apply IsS69.drewN | apply IsS69.drew | apply IsS69.set_1 | refine IsS69.far ?_ NB0_300.out _ | refine IsS69.far ?_ NB0_301.out _) | exact HI0.out)⟩, ⟨by repeat (first | (with_reducible first | exact HK.out | apply KeepBut.set_ | apply keep_drewN | apply keep_drew | apply keep_alloc | refine keep_far ?_ GW300.out _ | refine keep_far ?_ GW301.out _) | exact HK.out)⟩, ⟨by repeat (first | (with_reducible first | exact HB.out | apply zU | apply zV | apply zW | refine zH ?_ (IsS69.ge HI0.out) | refine zH ?_ GE300.out | refine zH ?_ GE301.out) | exact HB.out)⟩⟩
 case rest =>
  clear HC4
  try clear c1
  try clear c2
  try clear p2
  try clear c3
  try clear p3
  try clear q3
  try clear hx3
  try clear c4
  try clear c5
  try clear hcv5
  try clear p6
  try clear c7
  try clear c8
  try clear c11
  try clear c11b0
  try clear c11b1
  try clear c13
  try clear c13b0
  try clear c13b1
  try clear c14
  try clear c14b0
  try clear c14b1
  try clear c15
  try clear c18
  try clear c18b0
  try clear c18b1
  try clear c20
  try clear c20b0
  try clear c21
  try clear c21b0
  try clear c23
  try clear c24
  try clear p31
  try clear q31
  try clear hx31
  try clear c33
  try clear c34
  try clear c38
  try clear c38b0
  try clear c38b1
  try clear c39
  try clear c41
  try clear c42
  try clear c45
  try clear c45b0
  try clear c47
  try clear c47b0
  try clear c47b1
  try clear c47b2
  try clear hcv52
  try clear c55
  try clear c56
  try clear c57
  try clear hcz25_0
  try clear hcz25_1
  try clear hcz25_2
  try clear hcz31_0
  try clear hcz31_1
  try clear hcz31_2
  try clear hcz35_0
  try clear hcz35_1
  try clear hcz35_2
  try clear hcz43_0
  try clear hcz43_1
  try clear hcz43_2
  try clear hcz58_0
  try clear hcz58_1
  try clear hcz58_2
  try clear hcz9_0
  try clear hcz9_1
  try clear hcz9_2
  try clear hfz25_0
  try clear hfz25_1
  try clear hfz25_2
  try clear hfz31_0
  try clear hfz31_1
  try clear hfz31_2
  try clear hfz35_0
  try clear hfz35_1
  try clear hfz35_2
  try clear hfz43_0
  try clear hfz43_1
  try clear hfz43_2
  try clear hfz58_0
  try clear hfz58_1
  try clear hfz58_2
  try clear hfz9_0
  try clear hfz9_1
  try clear hfz9_2
  try clear hx313_0
  try clear p2
  try clear p3
  try clear p31
  try clear p313
  try clear p6
  try clear q3
  try clear q31
  try clear q313
  obtain ⟨kq, x1001_3, x302000_3, x302001_3, x302002_3, HA, HJ3, BK300, BK301, HI0, HK, HB⟩ := hcut
  cases kq with
  | zero => exact absurd HA.out (by simp [spec_l20Value.j3])
  | succ kj3 =>
   have H := HA.out
   clear HA
   simp only [spec_l20Value.j3] at H
   replace H := Option.bind_eq_some_iff.mp H
   obtain ⟨⟨t323, t324⟩, A590, H⟩ := H
   replace H : (if t323 = true then ((spec_l20Rd_pick.f kj3 s0_0 t324 4).bind fun bt325 => (if bt325.1 = 0 then (some (x302000_3, 10000, x302002_3, bt325.2)) else (if bt325.1 = 1 then (if x302002_3.size + 7 ≤ 9223372036854775807 then (some (x302000_3, x302001_3, x302002_3 ++ (⟨#[97, 98, 99, 100, 101, 102, 103]⟩ : ByteArray), bt325.2)) else (none)) else (if bt325.1 = 2 then ((spec_l20Rd_pick.f kj3 s0_0 bt325.2 7).bind fun bt327 => (some (wrap64 (bt327.1 - 1), x302001_3, x302002_3, bt327.2))) else (if x302002_3.size + 1 ≤ 9223372036854775807 then (some (x302000_3, x302001_3, x302002_3 ++ (⟨#[65]⟩ : ByteArray), bt325.2)) else (none)))))) else (some (x302000_3, x302001_3, x302002_3, t324))) = some (r1, r2, r3, r4) := H
   have A59 := zM A590
   clear A590
   by_cases c60 : t323 = true
   ·
    subst c60
    have H1 : ((spec_l20Rd_pick.f kj3 s0_0 t324 4).bind fun bt325 => (if bt325.1 = 0 then (some (x302000_3, 10000, x302002_3, bt325.2)) else (if bt325.1 = 1 then (if x302002_3.size + 7 ≤ 9223372036854775807 then (some (x302000_3, x302001_3, x302002_3 ++ (⟨#[97, 98, 99, 100, 101, 102, 103]⟩ : ByteArray), bt325.2)) else (none)) else (if bt325.1 = 2 then ((spec_l20Rd_pick.f kj3 s0_0 bt325.2 7).bind fun bt327 => (some (wrap64 (bt327.1 - 1), x302001_3, x302002_3, bt327.2))) else (if x302002_3.size + 1 ≤ 9223372036854775807 then (some (x302000_3, x302001_3, x302002_3 ++ (⟨#[65]⟩ : ByteArray), bt325.2)) else (none)))))) = some (r1, r2, r3, r4) := by rw [if_pos rfl] at H; exact H
    clear H
    have H := H1
    clear H1
    replace H := Option.bind_eq_some_iff.mp H
    obtain ⟨⟨t325, t326⟩, A610, H⟩ := H
    replace H : (if t325 = 0 then (some (x302000_3, 10000, x302002_3, t326)) else (if t325 = 1 then (if x302002_3.size + 7 ≤ 9223372036854775807 then (some (x302000_3, x302001_3, x302002_3 ++ (⟨#[97, 98, 99, 100, 101, 102, 103]⟩ : ByteArray), t326)) else (none)) else (if t325 = 2 then ((spec_l20Rd_pick.f kj3 s0_0 t326 7).bind fun bt327 => (some (wrap64 (bt327.1 - 1), x302001_3, x302002_3, bt327.2))) else (if x302002_3.size + 1 ≤ 9223372036854775807 then (some (x302000_3, x302001_3, x302002_3 ++ (⟨#[65]⟩ : ByteArray), t326)) else (none))))) = some (r1, r2, r3, r4) := H
    have A61 := zM A610
    clear A610
    by_cases c62 : t325 = 0
    ·
     rw [if_pos c62] at H
     have c62b0 : (t325 == 0) = true := beq_iff_eq.mpr c62
     have c62b1 : (t325 != 0) = false := bne_eq_false_iff_eq.mpr c62
     clear c62
     simp only [Option.some.injEq, Prod.mk.injEq] at H
     obtain ⟨rfl, rfl, rfl, rfl⟩ := H
     go_wp2_with (first | ((with_reducible refine gate_callee (f := 65) rfl ?_); refine goesL_ (some 54) rfl rfl Try.func65 (by kernel_rfl) rfl #[.pointer (some ⟨g, 0, none⟩), .int .i64 a1] rfl (by (try simp only [List.map_toArray, List.map_cons, List.map_nil]); first | done | rfl | (simp only [List.length_drop, List.length_take]; rfl)) ?_; (with_reducible refine (spec_l20Rd_odd.calls kj3 g s0_0 x1001_3 a1 true t324 w0 _ ?side1 ?side2 A59.out).mono ?_); (case side1 => repeat (first | (with_reducible first | exact HI0.out | apply IsS69.alloc | apply IsS69.drewN | apply IsS69.drew | apply IsS69.set_1 | refine IsS69.far ?_ NB0_300.out _ | refine IsS69.far ?_ NB0_301.out _) | exact HI0.out)); (case side2 => repeat (first | (with_reducible first | exact HB.out | apply zU | apply zV | apply zW | refine zH ?_ (IsS69.ge HI0.out) | refine zH ?_ GE300.out | refine zH ?_ GE301.out) | exact HB.out)); rintro e w63 ⟨rfl, hi, hb, hk⟩; refine ⟨_, rfl, ?_⟩; have n0_ := zM (KeepBut.blk hk (g' := gb300) (o := .cells #[.int .i64 0, .int .i64 0, .string (⟨#[]⟩ : ByteArray)] 27 (0, 0)) (by (with_reducible repeat (first | refine zX ?_ _ | refine zY ?_ | refine zZ ?_ _)); exact BK300.out) NB300_0.out (by simp)); have n1_ := zM (KeepBut.blk hk (g' := gb301) (o := .cells #[.int .i64 x302000_3, .int .i64 x302001_3, .string x302002_3] 27 (0, 0)) (by (with_reducible repeat (first | refine zX ?_ _ | refine zY ?_ | refine zZ ?_ _)); exact BK301.out) NB301_0.out (by simp)); have n2_ := zM (KeepBut.trans (by repeat (first | (with_reducible first | exact HK.out | apply KeepBut.set_ | apply keep_drewN | apply keep_drew | apply keep_alloc | refine keep_far ?_ GW300.out _ | refine keep_far ?_ GW301.out _) | exact HK.out)) hk (.inl rfl)); have n3_ := zM (hb); have n4_ := zM (hi); clear BK300; clear BK301; clear HK; clear HB; clear HI0; have BK300 := n0_; have BK301 := n1_; have HK := n2_; have HB := n3_; have HI0 := n4_; clear n0_ n1_ n2_ n3_ n4_; (try clear hb); (try clear hb2); (try clear hk); (try clear hi)) | ((with_reducible refine gate_callee (f := 57) rfl ?_); refine goesL_ (some 56) rfl rfl Try.func57 (by kernel_rfl) rfl #[.pointer (some ⟨g, 0, none⟩), .int .i64 4] rfl (by (try simp only [List.map_toArray, List.map_cons, List.map_nil]); first | done | rfl | (simp only [List.length_drop, List.length_take]; rfl)) ?_; (with_reducible refine (spec_l20Rd_pick.calls kj3 g s0_0 t324 4 t325 t326 w0 _ ?side1 ?side2 A61.out).mono ?_); (case side1 => repeat (first | (with_reducible first | exact HI0.out | apply IsS69.alloc | apply IsS69.drewN | apply IsS69.drew | apply IsS69.set_1 | refine IsS69.far ?_ NB0_300.out _ | refine IsS69.far ?_ NB0_301.out _) | exact HI0.out)); (case side2 => repeat (first | (with_reducible first | exact HB.out | apply zU | apply zV | apply zW | refine zH ?_ (IsS69.ge HI0.out) | refine zH ?_ GE300.out | refine zH ?_ GE301.out) | exact HB.out)); rintro e w64 ⟨rfl, hi, hb, hk⟩; refine ⟨_, rfl, ?_⟩; have n0_ := zM (KeepBut.blk hk (g' := gb300) (o := .cells #[.int .i64 0, .int .i64 0, .string (⟨#[]⟩ : ByteArray)] 27 (0, 0)) (by (with_reducible repeat (first | refine zX ?_ _ | refine zY ?_ | refine zZ ?_ _)); exact BK300.out) NB300_0.out (by simp)); have n1_ := zM (KeepBut.blk hk (g' := gb301) (o := .cells #[.int .i64 x302000_3, .int .i64 x302001_3, .string x302002_3] 27 (0, 0)) (by (with_reducible repeat (first | refine zX ?_ _ | refine zY ?_ | refine zZ ?_ _)); exact BK301.out) NB301_0.out (by simp)); have n2_ := zM (KeepBut.trans (by repeat (first | (with_reducible first | exact HK.out | apply KeepBut.set_ | apply keep_drewN | apply keep_drew | apply keep_alloc | refine keep_far ?_ GW300.out _ | refine keep_far ?_ GW301.out _) | exact HK.out)) hk (.inl rfl)); have n3_ := zM (hb); have n4_ := zM (hi); clear BK300; clear BK301; clear HK; clear HB; clear HI0; have BK300 := n0_; have BK301 := n1_; have HK := n2_; have HB := n3_; have HI0 := n4_; clear n0_ n1_ n2_ n3_ n4_; (try clear hb); (try clear hb2); (try clear hk); (try clear hi); have hnb65 := NB301_300.out; have hnc65 := NB300_301.out; have hnb66 := NB301_0.out; have hnc66 := NB0_301.out; have hcz67_0 : w64.cell? ⟨gb301, 0, none⟩ = some (.int .i64 x302000_3) := (zK BK301.out 0).trans rfl; have hcz67_1 : w64.cell? ⟨gb301, 1, none⟩ = some (.int .i64 x302001_3) := (zK BK301.out 1).trans rfl; have hcz67_2 : w64.cell? ⟨gb301, 2, none⟩ = some (.string x302002_3) := (zK BK301.out 2).trans rfl; have hfz67_0 := zF BK301.out 0; have hfz67_1 := zF BK301.out 1; have hfz67_2 := zF BK301.out 2; have hnb68 := NB300_0.out; have hnc68 := NB0_300.out; have hcz69_0 : w64.cell? ⟨gb300, 0, none⟩ = some (.int .i64 0) := (zK BK300.out 0).trans rfl; have hcz69_1 : w64.cell? ⟨gb300, 1, none⟩ = some (.int .i64 0) := (zK BK300.out 1).trans rfl; have hcz69_2 : w64.cell? ⟨gb300, 2, none⟩ = some (.string (⟨#[]⟩ : ByteArray)) := (zK BK300.out 2).trans rfl; have hfz69_0 := zF BK300.out 0; have hfz69_1 := zF BK300.out 1; have hfz69_2 := zF BK300.out 2))
     refine bodyPost_ret (results_cell_row rfl _ _ gb300 27 #[.int .i64 x302000_3, .int .i64 10000, .string x302002_3] (0, 0) _ rfl (by (with_reducible repeat (first | refine zX ?_ _ | refine zY ?_ | refine zZ ?_ _)); refine blk_put (cs := #[.int .i64 x302000_3, .int .i64 10000, .string (⟨#[]⟩ : ByteArray)]) ?_ 2 _ rfl; (with_reducible repeat (first | refine zX ?_ _ | refine zY ?_ | refine zZ ?_ _)); refine blk_put (cs := #[.int .i64 x302000_3, .int .i64 0, .string (⟨#[]⟩ : ByteArray)]) ?_ 1 _ rfl; (with_reducible repeat (first | refine zX ?_ _ | refine zY ?_ | refine zZ ?_ _)); refine blk_put (cs := #[.int .i64 0, .int .i64 0, .string (⟨#[]⟩ : ByteArray)]) ?_ 0 _ rfl; (with_reducible repeat (first | refine zX ?_ _ | refine zY ?_ | refine zZ ?_ _)); refine blk_far ?_ NB300_301.out _; (with_reducible repeat (first | refine zX ?_ _ | refine zY ?_ | refine zZ ?_ _)); exact BK300.out) Try.underlying27 rfl (by kernel_rfl)) rfl ?_
     exact ⟨by first | rfl | (simp [errW_none, errW_some] <;> rfl) | (simp [*, errW_none, errW_some] <;> rfl), by repeat (first | (with_reducible first | exact HI0.out | apply IsS69.alloc | apply IsS69.drewN | apply IsS69.drew | apply IsS69.set_1 | refine IsS69.far ?_ NB0_300.out _ | refine IsS69.far ?_ NB0_301.out _) | exact HI0.out), by repeat (first | (with_reducible first | exact HB.out | apply zU | apply zV | apply zW | refine zH ?_ (IsS69.ge HI0.out) | refine zH ?_ GE300.out | refine zH ?_ GE301.out) | exact HB.out), by repeat (first | (with_reducible first | exact HK.out | apply KeepBut.set_ | apply keep_drewN | apply keep_drew | apply keep_alloc | refine keep_far ?_ GW300.out _ | refine keep_far ?_ GW301.out _) | exact HK.out)⟩
    ·
     rw [if_neg c62] at H
     have c62b0 : (t325 == 0) = false := beq_eq_false_iff_ne.mpr c62
     have c62b1 : (t325 != 0) = true := bne_iff_ne.mpr c62
     by_cases c70 : t325 = 1
     ·
      rw [if_pos c70] at H
      have c70b0 : (t325 == 1) = true := beq_iff_eq.mpr c70
      have c70b1 : (t325 != 1) = false := bne_eq_false_iff_eq.mpr c70
      clear c70
      by_cases c71 : x302002_3.size + 7 ≤ 9223372036854775807
      ·
       rw [if_pos c71] at H
       have c71b0 := eq_true c71
       have c71b1 : decide (x302002_3.size + 7 ≤ 9223372036854775807) = true := decide_eq_true c71
       try have c71b2 : (9223372036854775807 < x302002_3.size + 7) = False := eq_false (Nat.not_lt.2 c71)
       simp only [Option.some.injEq, Prod.mk.injEq] at H
       obtain ⟨rfl, rfl, rfl, rfl⟩ := H
       go_wp2_with (first | ((with_reducible refine gate_callee (f := 65) rfl ?_); refine goesL_ (some 54) rfl rfl Try.func65 (by kernel_rfl) rfl #[.pointer (some ⟨g, 0, none⟩), .int .i64 a1] rfl (by (try simp only [List.map_toArray, List.map_cons, List.map_nil]); first | done | rfl | (simp only [List.length_drop, List.length_take]; rfl)) ?_; (with_reducible refine (spec_l20Rd_odd.calls kj3 g s0_0 x1001_3 a1 true t324 w0 _ ?side1 ?side2 A59.out).mono ?_); (case side1 => repeat (first | (with_reducible first | exact HI0.out | apply IsS69.alloc | apply IsS69.drewN | apply IsS69.drew | apply IsS69.set_1 | refine IsS69.far ?_ NB0_300.out _ | refine IsS69.far ?_ NB0_301.out _) | exact HI0.out)); (case side2 => repeat (first | (with_reducible first | exact HB.out | apply zU | apply zV | apply zW | refine zH ?_ (IsS69.ge HI0.out) | refine zH ?_ GE300.out | refine zH ?_ GE301.out) | exact HB.out)); rintro e w72 ⟨rfl, hi, hb, hk⟩; refine ⟨_, rfl, ?_⟩; have n0_ := zM (KeepBut.blk hk (g' := gb300) (o := .cells #[.int .i64 0, .int .i64 0, .string (⟨#[]⟩ : ByteArray)] 27 (0, 0)) (by (with_reducible repeat (first | refine zX ?_ _ | refine zY ?_ | refine zZ ?_ _)); exact BK300.out) NB300_0.out (by simp)); have n1_ := zM (KeepBut.blk hk (g' := gb301) (o := .cells #[.int .i64 x302000_3, .int .i64 x302001_3, .string x302002_3] 27 (0, 0)) (by (with_reducible repeat (first | refine zX ?_ _ | refine zY ?_ | refine zZ ?_ _)); exact BK301.out) NB301_0.out (by simp)); have n2_ := zM (KeepBut.trans (by repeat (first | (with_reducible first | exact HK.out | apply KeepBut.set_ | apply keep_drewN | apply keep_drew | apply keep_alloc | refine keep_far ?_ GW300.out _ | refine keep_far ?_ GW301.out _) | exact HK.out)) hk (.inl rfl)); have n3_ := zM (hb); have n4_ := zM (hi); clear BK300; clear BK301; clear HK; clear HB; clear HI0; have BK300 := n0_; have BK301 := n1_; have HK := n2_; have HB := n3_; have HI0 := n4_; clear n0_ n1_ n2_ n3_ n4_; (try clear hb); (try clear hb2); (try clear hk); (try clear hi)) | ((with_reducible refine gate_callee (f := 57) rfl ?_); refine goesL_ (some 56) rfl rfl Try.func57 (by kernel_rfl) rfl #[.pointer (some ⟨g, 0, none⟩), .int .i64 4] rfl (by (try simp only [List.map_toArray, List.map_cons, List.map_nil]); first | done | rfl | (simp only [List.length_drop, List.length_take]; rfl)) ?_; (with_reducible refine (spec_l20Rd_pick.calls kj3 g s0_0 t324 4 t325 t326 w0 _ ?side1 ?side2 A61.out).mono ?_); (case side1 => repeat (first | (with_reducible first | exact HI0.out | apply IsS69.alloc | apply IsS69.drewN | apply IsS69.drew | apply IsS69.set_1 | refine IsS69.far ?_ NB0_300.out _ | refine IsS69.far ?_ NB0_301.out _) | exact HI0.out)); (case side2 => repeat (first | (with_reducible first | exact HB.out | apply zU | apply zV | apply zW | refine zH ?_ (IsS69.ge HI0.out) | refine zH ?_ GE300.out | refine zH ?_ GE301.out) | exact HB.out)); rintro e w73 ⟨rfl, hi, hb, hk⟩; refine ⟨_, rfl, ?_⟩; have n0_ := zM (KeepBut.blk hk (g' := gb300) (o := .cells #[.int .i64 0, .int .i64 0, .string (⟨#[]⟩ : ByteArray)] 27 (0, 0)) (by (with_reducible repeat (first | refine zX ?_ _ | refine zY ?_ | refine zZ ?_ _)); exact BK300.out) NB300_0.out (by simp)); have n1_ := zM (KeepBut.blk hk (g' := gb301) (o := .cells #[.int .i64 x302000_3, .int .i64 x302001_3, .string x302002_3] 27 (0, 0)) (by (with_reducible repeat (first | refine zX ?_ _ | refine zY ?_ | refine zZ ?_ _)); exact BK301.out) NB301_0.out (by simp)); have n2_ := zM (KeepBut.trans (by repeat (first | (with_reducible first | exact HK.out | apply KeepBut.set_ | apply keep_drewN | apply keep_drew | apply keep_alloc | refine keep_far ?_ GW300.out _ | refine keep_far ?_ GW301.out _) | exact HK.out)) hk (.inl rfl)); have n3_ := zM (hb); have n4_ := zM (hi); clear BK300; clear BK301; clear HK; clear HB; clear HI0; have BK300 := n0_; have BK301 := n1_; have HK := n2_; have HB := n3_; have HI0 := n4_; clear n0_ n1_ n2_ n3_ n4_; (try clear hb); (try clear hb2); (try clear hk); (try clear hi); have hnb74 := NB301_300.out; have hnc74 := NB300_301.out; have hnb75 := NB301_0.out; have hnc75 := NB0_301.out; have hcz76_0 : w73.cell? ⟨gb301, 0, none⟩ = some (.int .i64 x302000_3) := (zK BK301.out 0).trans rfl; have hcz76_1 : w73.cell? ⟨gb301, 1, none⟩ = some (.int .i64 x302001_3) := (zK BK301.out 1).trans rfl; have hcz76_2 : w73.cell? ⟨gb301, 2, none⟩ = some (.string x302002_3) := (zK BK301.out 2).trans rfl; have hfz76_0 := zF BK301.out 0; have hfz76_1 := zF BK301.out 1; have hfz76_2 := zF BK301.out 2; have hnb77 := NB300_0.out; have hnc77 := NB0_300.out; have hcz78_0 : w73.cell? ⟨gb300, 0, none⟩ = some (.int .i64 0) := (zK BK300.out 0).trans rfl; have hcz78_1 : w73.cell? ⟨gb300, 1, none⟩ = some (.int .i64 0) := (zK BK300.out 1).trans rfl; have hcz78_2 : w73.cell? ⟨gb300, 2, none⟩ = some (.string (⟨#[]⟩ : ByteArray)) := (zK BK300.out 2).trans rfl; have hfz78_0 := zF BK300.out 0; have hfz78_1 := zF BK300.out 1; have hfz78_2 := zF BK300.out 2))
       refine bodyPost_ret (results_cell_row rfl _ _ gb300 27 #[.int .i64 x302000_3, .int .i64 x302001_3, .string (x302002_3 ++ (⟨#[97, 98, 99, 100, 101, 102, 103]⟩ : ByteArray))] (0, 0) _ rfl (by (with_reducible repeat (first | refine zX ?_ _ | refine zY ?_ | refine zZ ?_ _)); refine blk_put (cs := #[.int .i64 x302000_3, .int .i64 x302001_3, .string (⟨#[]⟩ : ByteArray)]) ?_ 2 _ rfl; (with_reducible repeat (first | refine zX ?_ _ | refine zY ?_ | refine zZ ?_ _)); refine blk_put (cs := #[.int .i64 x302000_3, .int .i64 0, .string (⟨#[]⟩ : ByteArray)]) ?_ 1 _ rfl; (with_reducible repeat (first | refine zX ?_ _ | refine zY ?_ | refine zZ ?_ _)); refine blk_put (cs := #[.int .i64 0, .int .i64 0, .string (⟨#[]⟩ : ByteArray)]) ?_ 0 _ rfl; (with_reducible repeat (first | refine zX ?_ _ | refine zY ?_ | refine zZ ?_ _)); refine blk_far ?_ NB300_301.out _; (with_reducible repeat (first | refine zX ?_ _ | refine zY ?_ | refine zZ ?_ _)); exact BK300.out) Try.underlying27 rfl (by kernel_rfl)) rfl ?_
       exact ⟨by first | rfl | (simp [errW_none, errW_some] <;> rfl) | (simp [*, errW_none, errW_some] <;> rfl), by repeat (first | (with_reducible first | exact HI0.out | apply IsS69.alloc | apply IsS69.drewN | apply IsS69.drew | apply IsS69.set_1 | refine IsS69.far ?_ NB0_300.out _ | refine IsS69.far ?_ NB0_301.out _) | exact HI0.out), by repeat (first | (with_reducible first | exact HB.out | apply zU | apply zV | apply zW | refine zH ?_ (IsS69.ge HI0.out) | refine zH ?_ GE300.out | refine zH ?_ GE301.out) | exact HB.out), by repeat (first | (with_reducible first | exact HK.out | apply KeepBut.set_ | apply keep_drewN | apply keep_drew | apply keep_alloc | refine keep_far ?_ GW300.out _ | refine keep_far ?_ GW301.out _) | exact HK.out)⟩
      ·
       rw [if_neg c71] at H
       exact absurd H (by simp)
     ·
      rw [if_neg c70] at H
      have c70b0 : (t325 == 1) = false := beq_eq_false_iff_ne.mpr c70
      have c70b1 : (t325 != 1) = true := bne_iff_ne.mpr c70
      by_cases c79 : t325 = 2
      ·
       rw [if_pos c79] at H
       have c79b0 : (t325 == 2) = true := beq_iff_eq.mpr c79
       have c79b1 : (t325 != 2) = false := bne_eq_false_iff_eq.mpr c79
       clear c79
       replace H := Option.bind_eq_some_iff.mp H
       obtain ⟨⟨t327, t328⟩, A800, H⟩ := H
       replace H : (some (wrap64 (t327 - 1), x302001_3, x302002_3, t328)) = some (r1, r2, r3, r4) := H
       have A80 := zM A800
       clear A800
       simp only [Option.some.injEq, Prod.mk.injEq] at H
       obtain ⟨rfl, rfl, rfl, rfl⟩ := H
       go_wp2_with (first | ((with_reducible refine gate_callee (f := 65) rfl ?_); refine goesL_ (some 54) rfl rfl Try.func65 (by kernel_rfl) rfl #[.pointer (some ⟨g, 0, none⟩), .int .i64 a1] rfl (by (try simp only [List.map_toArray, List.map_cons, List.map_nil]); first | done | rfl | (simp only [List.length_drop, List.length_take]; rfl)) ?_; (with_reducible refine (spec_l20Rd_odd.calls kj3 g s0_0 x1001_3 a1 true t324 w0 _ ?side1 ?side2 A59.out).mono ?_); (case side1 => repeat (first | (with_reducible first | exact HI0.out | apply IsS69.alloc | apply IsS69.drewN | apply IsS69.drew | apply IsS69.set_1 | refine IsS69.far ?_ NB0_300.out _ | refine IsS69.far ?_ NB0_301.out _) | exact HI0.out)); (case side2 => repeat (first | (with_reducible first | exact HB.out | apply zU | apply zV | apply zW | refine zH ?_ (IsS69.ge HI0.out) | refine zH ?_ GE300.out | refine zH ?_ GE301.out) | exact HB.out)); rintro e w81 ⟨rfl, hi, hb, hk⟩; refine ⟨_, rfl, ?_⟩; have n0_ := zM (KeepBut.blk hk (g' := gb300) (o := .cells #[.int .i64 0, .int .i64 0, .string (⟨#[]⟩ : ByteArray)] 27 (0, 0)) (by (with_reducible repeat (first | refine zX ?_ _ | refine zY ?_ | refine zZ ?_ _)); exact BK300.out) NB300_0.out (by simp)); have n1_ := zM (KeepBut.blk hk (g' := gb301) (o := .cells #[.int .i64 x302000_3, .int .i64 x302001_3, .string x302002_3] 27 (0, 0)) (by (with_reducible repeat (first | refine zX ?_ _ | refine zY ?_ | refine zZ ?_ _)); exact BK301.out) NB301_0.out (by simp)); have n2_ := zM (KeepBut.trans (by repeat (first | (with_reducible first | exact HK.out | apply KeepBut.set_ | apply keep_drewN | apply keep_drew | apply keep_alloc | refine keep_far ?_ GW300.out _ | refine keep_far ?_ GW301.out _) | exact HK.out)) hk (.inl rfl)); have n3_ := zM (hb); have n4_ := zM (hi); clear BK300; clear BK301; clear HK; clear HB; clear HI0; have BK300 := n0_; have BK301 := n1_; have HK := n2_; have HB := n3_; have HI0 := n4_; clear n0_ n1_ n2_ n3_ n4_; (try clear hb); (try clear hb2); (try clear hk); (try clear hi)) | ((with_reducible refine gate_callee (f := 57) rfl ?_); refine goesL_ (some 56) rfl rfl Try.func57 (by kernel_rfl) rfl #[.pointer (some ⟨g, 0, none⟩), .int .i64 4] rfl (by (try simp only [List.map_toArray, List.map_cons, List.map_nil]); first | done | rfl | (simp only [List.length_drop, List.length_take]; rfl)) ?_; (with_reducible refine (spec_l20Rd_pick.calls kj3 g s0_0 t324 4 t325 t326 w0 _ ?side1 ?side2 A61.out).mono ?_); (case side1 => repeat (first | (with_reducible first | exact HI0.out | apply IsS69.alloc | apply IsS69.drewN | apply IsS69.drew | apply IsS69.set_1 | refine IsS69.far ?_ NB0_300.out _ | refine IsS69.far ?_ NB0_301.out _) | exact HI0.out)); (case side2 => repeat (first | (with_reducible first | exact HB.out | apply zU | apply zV | apply zW | refine zH ?_ (IsS69.ge HI0.out) | refine zH ?_ GE300.out | refine zH ?_ GE301.out) | exact HB.out)); rintro e w82 ⟨rfl, hi, hb, hk⟩; refine ⟨_, rfl, ?_⟩; have n0_ := zM (KeepBut.blk hk (g' := gb300) (o := .cells #[.int .i64 0, .int .i64 0, .string (⟨#[]⟩ : ByteArray)] 27 (0, 0)) (by (with_reducible repeat (first | refine zX ?_ _ | refine zY ?_ | refine zZ ?_ _)); exact BK300.out) NB300_0.out (by simp)); have n1_ := zM (KeepBut.blk hk (g' := gb301) (o := .cells #[.int .i64 x302000_3, .int .i64 x302001_3, .string x302002_3] 27 (0, 0)) (by (with_reducible repeat (first | refine zX ?_ _ | refine zY ?_ | refine zZ ?_ _)); exact BK301.out) NB301_0.out (by simp)); have n2_ := zM (KeepBut.trans (by repeat (first | (with_reducible first | exact HK.out | apply KeepBut.set_ | apply keep_drewN | apply keep_drew | apply keep_alloc | refine keep_far ?_ GW300.out _ | refine keep_far ?_ GW301.out _) | exact HK.out)) hk (.inl rfl)); have n3_ := zM (hb); have n4_ := zM (hi); clear BK300; clear BK301; clear HK; clear HB; clear HI0; have BK300 := n0_; have BK301 := n1_; have HK := n2_; have HB := n3_; have HI0 := n4_; clear n0_ n1_ n2_ n3_ n4_; (try clear hb); (try clear hb2); (try clear hk); (try clear hi)) | ((with_reducible refine gate_callee (f := 57) rfl ?_); refine goesL_ (some 73) rfl rfl Try.func57 (by kernel_rfl) rfl #[.pointer (some ⟨g, 0, none⟩), .int .i64 7] rfl (by (try simp only [List.map_toArray, List.map_cons, List.map_nil]); first | done | rfl | (simp only [List.length_drop, List.length_take]; rfl)) ?_; (with_reducible refine (spec_l20Rd_pick.calls kj3 g s0_0 t326 7 t327 t328 w0 _ ?side1 ?side2 A80.out).mono ?_); (case side1 => repeat (first | (with_reducible first | exact HI0.out | apply IsS69.alloc | apply IsS69.drewN | apply IsS69.drew | apply IsS69.set_1 | refine IsS69.far ?_ NB0_300.out _ | refine IsS69.far ?_ NB0_301.out _) | exact HI0.out)); (case side2 => repeat (first | (with_reducible first | exact HB.out | apply zU | apply zV | apply zW | refine zH ?_ (IsS69.ge HI0.out) | refine zH ?_ GE300.out | refine zH ?_ GE301.out) | exact HB.out)); rintro e w83 ⟨rfl, hi, hb, hk⟩; refine ⟨_, rfl, ?_⟩; have n0_ := zM (KeepBut.blk hk (g' := gb300) (o := .cells #[.int .i64 0, .int .i64 0, .string (⟨#[]⟩ : ByteArray)] 27 (0, 0)) (by (with_reducible repeat (first | refine zX ?_ _ | refine zY ?_ | refine zZ ?_ _)); exact BK300.out) NB300_0.out (by simp)); have n1_ := zM (KeepBut.blk hk (g' := gb301) (o := .cells #[.int .i64 x302000_3, .int .i64 x302001_3, .string x302002_3] 27 (0, 0)) (by (with_reducible repeat (first | refine zX ?_ _ | refine zY ?_ | refine zZ ?_ _)); exact BK301.out) NB301_0.out (by simp)); have n2_ := zM (KeepBut.trans (by repeat (first | (with_reducible first | exact HK.out | apply KeepBut.set_ | apply keep_drewN | apply keep_drew | apply keep_alloc | refine keep_far ?_ GW300.out _ | refine keep_far ?_ GW301.out _) | exact HK.out)) hk (.inl rfl)); have n3_ := zM (hb); have n4_ := zM (hi); clear BK300; clear BK301; clear HK; clear HB; clear HI0; have BK300 := n0_; have BK301 := n1_; have HK := n2_; have HB := n3_; have HI0 := n4_; clear n0_ n1_ n2_ n3_ n4_; (try clear hb); (try clear hb2); (try clear hk); (try clear hi); have hnb84 := NB301_300.out; have hnc84 := NB300_301.out; have hnb85 := NB301_0.out; have hnc85 := NB0_301.out; have hcz86_0 : w83.cell? ⟨gb301, 0, none⟩ = some (.int .i64 x302000_3) := (zK BK301.out 0).trans rfl; have hcz86_1 : w83.cell? ⟨gb301, 1, none⟩ = some (.int .i64 x302001_3) := (zK BK301.out 1).trans rfl; have hcz86_2 : w83.cell? ⟨gb301, 2, none⟩ = some (.string x302002_3) := (zK BK301.out 2).trans rfl; have hfz86_0 := zF BK301.out 0; have hfz86_1 := zF BK301.out 1; have hfz86_2 := zF BK301.out 2; have hnb87 := NB300_0.out; have hnc87 := NB0_300.out; have hcz88_0 : w83.cell? ⟨gb300, 0, none⟩ = some (.int .i64 0) := (zK BK300.out 0).trans rfl; have hcz88_1 : w83.cell? ⟨gb300, 1, none⟩ = some (.int .i64 0) := (zK BK300.out 1).trans rfl; have hcz88_2 : w83.cell? ⟨gb300, 2, none⟩ = some (.string (⟨#[]⟩ : ByteArray)) := (zK BK300.out 2).trans rfl; have hfz88_0 := zF BK300.out 0; have hfz88_1 := zF BK300.out 1; have hfz88_2 := zF BK300.out 2))
       refine bodyPost_ret (results_cell_row rfl _ _ gb300 27 #[.int .i64 (wrap64 (t327 - 1)), .int .i64 x302001_3, .string x302002_3] (0, 0) _ rfl (by (with_reducible repeat (first | refine zX ?_ _ | refine zY ?_ | refine zZ ?_ _)); refine blk_put (cs := #[.int .i64 (wrap64 (t327 - 1)), .int .i64 x302001_3, .string (⟨#[]⟩ : ByteArray)]) ?_ 2 _ rfl; (with_reducible repeat (first | refine zX ?_ _ | refine zY ?_ | refine zZ ?_ _)); refine blk_put (cs := #[.int .i64 (wrap64 (t327 - 1)), .int .i64 0, .string (⟨#[]⟩ : ByteArray)]) ?_ 1 _ rfl; (with_reducible repeat (first | refine zX ?_ _ | refine zY ?_ | refine zZ ?_ _)); refine blk_put (cs := #[.int .i64 0, .int .i64 0, .string (⟨#[]⟩ : ByteArray)]) ?_ 0 _ rfl; (with_reducible repeat (first | refine zX ?_ _ | refine zY ?_ | refine zZ ?_ _)); refine blk_far ?_ NB300_301.out _; (with_reducible repeat (first | refine zX ?_ _ | refine zY ?_ | refine zZ ?_ _)); exact BK300.out) Try.underlying27 rfl (by kernel_rfl)) rfl ?_
       exact ⟨by first | rfl | (simp [errW_none, errW_some] <;> rfl) | (simp [*, errW_none, errW_some] <;> rfl), by repeat (first | (with_reducible first | exact HI0.out | apply IsS69.alloc | apply IsS69.drewN | apply IsS69.drew | apply IsS69.set_1 | refine IsS69.far ?_ NB0_300.out _ | refine IsS69.far ?_ NB0_301.out _) | exact HI0.out), by repeat (first | (with_reducible first | exact HB.out | apply zU | apply zV | apply zW | refine zH ?_ (IsS69.ge HI0.out) | refine zH ?_ GE300.out | refine zH ?_ GE301.out) | exact HB.out), by repeat (first | (with_reducible first | exact HK.out | apply KeepBut.set_ | apply keep_drewN | apply keep_drew | apply keep_alloc | refine keep_far ?_ GW300.out _ | refine keep_far ?_ GW301.out _) | exact HK.out)⟩
      ·
       rw [if_neg c79] at H
       have c79b0 : (t325 == 2) = false := beq_eq_false_iff_ne.mpr c79
       have c79b1 : (t325 != 2) = true := bne_iff_ne.mpr c79
       by_cases c89 : x302002_3.size + 1 ≤ 9223372036854775807
       ·
        rw [if_pos c89] at H
        have c89b0 := eq_true c89
        have c89b1 : decide (x302002_3.size + 1 ≤ 9223372036854775807) = true := decide_eq_true c89
        try have c89b2 : (9223372036854775807 < x302002_3.size + 1) = False := eq_false (Nat.not_lt.2 c89)
        simp only [Option.some.injEq, Prod.mk.injEq] at H
        obtain ⟨rfl, rfl, rfl, rfl⟩ := H
        go_wp2_with (first | ((with_reducible refine gate_callee (f := 65) rfl ?_); refine goesL_ (some 54) rfl rfl Try.func65 (by kernel_rfl) rfl #[.pointer (some ⟨g, 0, none⟩), .int .i64 a1] rfl (by (try simp only [List.map_toArray, List.map_cons, List.map_nil]); first | done | rfl | (simp only [List.length_drop, List.length_take]; rfl)) ?_; (with_reducible refine (spec_l20Rd_odd.calls kj3 g s0_0 x1001_3 a1 true t324 w0 _ ?side1 ?side2 A59.out).mono ?_); (case side1 => repeat (first | (with_reducible first | exact HI0.out | apply IsS69.alloc | apply IsS69.drewN | apply IsS69.drew | apply IsS69.set_1 | refine IsS69.far ?_ NB0_300.out _ | refine IsS69.far ?_ NB0_301.out _) | exact HI0.out)); (case side2 => repeat (first | (with_reducible first | exact HB.out | apply zU | apply zV | apply zW | refine zH ?_ (IsS69.ge HI0.out) | refine zH ?_ GE300.out | refine zH ?_ GE301.out) | exact HB.out)); rintro e w90 ⟨rfl, hi, hb, hk⟩; refine ⟨_, rfl, ?_⟩; have n0_ := zM (KeepBut.blk hk (g' := gb300) (o := .cells #[.int .i64 0, .int .i64 0, .string (⟨#[]⟩ : ByteArray)] 27 (0, 0)) (by (with_reducible repeat (first | refine zX ?_ _ | refine zY ?_ | refine zZ ?_ _)); exact BK300.out) NB300_0.out (by simp)); have n1_ := zM (KeepBut.blk hk (g' := gb301) (o := .cells #[.int .i64 x302000_3, .int .i64 x302001_3, .string x302002_3] 27 (0, 0)) (by (with_reducible repeat (first | refine zX ?_ _ | refine zY ?_ | refine zZ ?_ _)); exact BK301.out) NB301_0.out (by simp)); have n2_ := zM (KeepBut.trans (by repeat (first | (with_reducible first | exact HK.out | apply KeepBut.set_ | apply keep_drewN | apply keep_drew | apply keep_alloc | refine keep_far ?_ GW300.out _ | refine keep_far ?_ GW301.out _) | exact HK.out)) hk (.inl rfl)); have n3_ := zM (hb); have n4_ := zM (hi); clear BK300; clear BK301; clear HK; clear HB; clear HI0; have BK300 := n0_; have BK301 := n1_; have HK := n2_; have HB := n3_; have HI0 := n4_; clear n0_ n1_ n2_ n3_ n4_; (try clear hb); (try clear hb2); (try clear hk); (try clear hi)) | ((with_reducible refine gate_callee (f := 57) rfl ?_); refine goesL_ (some 56) rfl rfl Try.func57 (by kernel_rfl) rfl #[.pointer (some ⟨g, 0, none⟩), .int .i64 4] rfl (by (try simp only [List.map_toArray, List.map_cons, List.map_nil]); first | done | rfl | (simp only [List.length_drop, List.length_take]; rfl)) ?_; (with_reducible refine (spec_l20Rd_pick.calls kj3 g s0_0 t324 4 t325 t326 w0 _ ?side1 ?side2 A61.out).mono ?_); (case side1 => repeat (first | (with_reducible first | exact HI0.out | apply IsS69.alloc | apply IsS69.drewN | apply IsS69.drew | apply IsS69.set_1 | refine IsS69.far ?_ NB0_300.out _ | refine IsS69.far ?_ NB0_301.out _) | exact HI0.out)); (case side2 => repeat (first | (with_reducible first | exact HB.out | apply zU | apply zV | apply zW | refine zH ?_ (IsS69.ge HI0.out) | refine zH ?_ GE300.out | refine zH ?_ GE301.out) | exact HB.out)); rintro e w91 ⟨rfl, hi, hb, hk⟩; refine ⟨_, rfl, ?_⟩; have n0_ := zM (KeepBut.blk hk (g' := gb300) (o := .cells #[.int .i64 0, .int .i64 0, .string (⟨#[]⟩ : ByteArray)] 27 (0, 0)) (by (with_reducible repeat (first | refine zX ?_ _ | refine zY ?_ | refine zZ ?_ _)); exact BK300.out) NB300_0.out (by simp)); have n1_ := zM (KeepBut.blk hk (g' := gb301) (o := .cells #[.int .i64 x302000_3, .int .i64 x302001_3, .string x302002_3] 27 (0, 0)) (by (with_reducible repeat (first | refine zX ?_ _ | refine zY ?_ | refine zZ ?_ _)); exact BK301.out) NB301_0.out (by simp)); have n2_ := zM (KeepBut.trans (by repeat (first | (with_reducible first | exact HK.out | apply KeepBut.set_ | apply keep_drewN | apply keep_drew | apply keep_alloc | refine keep_far ?_ GW300.out _ | refine keep_far ?_ GW301.out _) | exact HK.out)) hk (.inl rfl)); have n3_ := zM (hb); have n4_ := zM (hi); clear BK300; clear BK301; clear HK; clear HB; clear HI0; have BK300 := n0_; have BK301 := n1_; have HK := n2_; have HB := n3_; have HI0 := n4_; clear n0_ n1_ n2_ n3_ n4_; (try clear hb); (try clear hb2); (try clear hk); (try clear hi); have hnb92 := NB301_300.out; have hnc92 := NB300_301.out; have hnb93 := NB301_0.out; have hnc93 := NB0_301.out; have hcz94_0 : w91.cell? ⟨gb301, 0, none⟩ = some (.int .i64 x302000_3) := (zK BK301.out 0).trans rfl; have hcz94_1 : w91.cell? ⟨gb301, 1, none⟩ = some (.int .i64 x302001_3) := (zK BK301.out 1).trans rfl; have hcz94_2 : w91.cell? ⟨gb301, 2, none⟩ = some (.string x302002_3) := (zK BK301.out 2).trans rfl; have hfz94_0 := zF BK301.out 0; have hfz94_1 := zF BK301.out 1; have hfz94_2 := zF BK301.out 2; have hnb95 := NB300_0.out; have hnc95 := NB0_300.out; have hcz96_0 : w91.cell? ⟨gb300, 0, none⟩ = some (.int .i64 0) := (zK BK300.out 0).trans rfl; have hcz96_1 : w91.cell? ⟨gb300, 1, none⟩ = some (.int .i64 0) := (zK BK300.out 1).trans rfl; have hcz96_2 : w91.cell? ⟨gb300, 2, none⟩ = some (.string (⟨#[]⟩ : ByteArray)) := (zK BK300.out 2).trans rfl; have hfz96_0 := zF BK300.out 0; have hfz96_1 := zF BK300.out 1; have hfz96_2 := zF BK300.out 2))
        refine bodyPost_ret (results_cell_row rfl _ _ gb300 27 #[.int .i64 x302000_3, .int .i64 x302001_3, .string (x302002_3 ++ (⟨#[65]⟩ : ByteArray))] (0, 0) _ rfl (by (with_reducible repeat (first | refine zX ?_ _ | refine zY ?_ | refine zZ ?_ _)); refine blk_put (cs := #[.int .i64 x302000_3, .int .i64 x302001_3, .string (⟨#[]⟩ : ByteArray)]) ?_ 2 _ rfl; (with_reducible repeat (first | refine zX ?_ _ | refine zY ?_ | refine zZ ?_ _)); refine blk_put (cs := #[.int .i64 x302000_3, .int .i64 0, .string (⟨#[]⟩ : ByteArray)]) ?_ 1 _ rfl; (with_reducible repeat (first | refine zX ?_ _ | refine zY ?_ | refine zZ ?_ _)); refine blk_put (cs := #[.int .i64 0, .int .i64 0, .string (⟨#[]⟩ : ByteArray)]) ?_ 0 _ rfl; (with_reducible repeat (first | refine zX ?_ _ | refine zY ?_ | refine zZ ?_ _)); refine blk_far ?_ NB300_301.out _; (with_reducible repeat (first | refine zX ?_ _ | refine zY ?_ | refine zZ ?_ _)); exact BK300.out) Try.underlying27 rfl (by kernel_rfl)) rfl ?_
        exact ⟨by first | rfl | (simp [errW_none, errW_some] <;> rfl) | (simp [*, errW_none, errW_some] <;> rfl), by repeat (first | (with_reducible first | exact HI0.out | apply IsS69.alloc | apply IsS69.drewN | apply IsS69.drew | apply IsS69.set_1 | refine IsS69.far ?_ NB0_300.out _ | refine IsS69.far ?_ NB0_301.out _) | exact HI0.out), by repeat (first | (with_reducible first | exact HB.out | apply zU | apply zV | apply zW | refine zH ?_ (IsS69.ge HI0.out) | refine zH ?_ GE300.out | refine zH ?_ GE301.out) | exact HB.out), by repeat (first | (with_reducible first | exact HK.out | apply KeepBut.set_ | apply keep_drewN | apply keep_drew | apply keep_alloc | refine keep_far ?_ GW300.out _ | refine keep_far ?_ GW301.out _) | exact HK.out)⟩
       ·
        rw [if_neg c89] at H
        exact absurd H (by simp)
   ·
    replace c60 := Bool.eq_false_iff.mpr c60
    subst c60
    have H1 : (some (x302000_3, x302001_3, x302002_3, t324)) = some (r1, r2, r3, r4) := by rw [if_neg (show ¬ (false = true) by decide)] at H; exact H
    clear H
    have H := H1
    clear H1
    simp only [Option.some.injEq, Prod.mk.injEq] at H
    obtain ⟨rfl, rfl, rfl, rfl⟩ := H
    go_wp2_with (first | ((with_reducible refine gate_callee (f := 65) rfl ?_); refine goesL_ (some 54) rfl rfl Try.func65 (by kernel_rfl) rfl #[.pointer (some ⟨g, 0, none⟩), .int .i64 a1] rfl (by (try simp only [List.map_toArray, List.map_cons, List.map_nil]); first | done | rfl | (simp only [List.length_drop, List.length_take]; rfl)) ?_; (with_reducible refine (spec_l20Rd_odd.calls kj3 g s0_0 x1001_3 a1 false t324 w0 _ ?side1 ?side2 A59.out).mono ?_); (case side1 => repeat (first | (with_reducible first | exact HI0.out | apply IsS69.alloc | apply IsS69.drewN | apply IsS69.drew | apply IsS69.set_1 | refine IsS69.far ?_ NB0_300.out _ | refine IsS69.far ?_ NB0_301.out _) | exact HI0.out)); (case side2 => repeat (first | (with_reducible first | exact HB.out | apply zU | apply zV | apply zW | refine zH ?_ (IsS69.ge HI0.out) | refine zH ?_ GE300.out | refine zH ?_ GE301.out) | exact HB.out)); rintro e w97 ⟨rfl, hi, hb, hk⟩; refine ⟨_, rfl, ?_⟩; have n0_ := zM (KeepBut.blk hk (g' := gb300) (o := .cells #[.int .i64 0, .int .i64 0, .string (⟨#[]⟩ : ByteArray)] 27 (0, 0)) (by (with_reducible repeat (first | refine zX ?_ _ | refine zY ?_ | refine zZ ?_ _)); exact BK300.out) NB300_0.out (by simp)); have n1_ := zM (KeepBut.blk hk (g' := gb301) (o := .cells #[.int .i64 x302000_3, .int .i64 x302001_3, .string x302002_3] 27 (0, 0)) (by (with_reducible repeat (first | refine zX ?_ _ | refine zY ?_ | refine zZ ?_ _)); exact BK301.out) NB301_0.out (by simp)); have n2_ := zM (KeepBut.trans (by repeat (first | (with_reducible first | exact HK.out | apply KeepBut.set_ | apply keep_drewN | apply keep_drew | apply keep_alloc | refine keep_far ?_ GW300.out _ | refine keep_far ?_ GW301.out _) | exact HK.out)) hk (.inl rfl)); have n3_ := zM (hb); have n4_ := zM (hi); clear BK300; clear BK301; clear HK; clear HB; clear HI0; have BK300 := n0_; have BK301 := n1_; have HK := n2_; have HB := n3_; have HI0 := n4_; clear n0_ n1_ n2_ n3_ n4_; (try clear hb); (try clear hb2); (try clear hk); (try clear hi); have hnb98 := NB301_300.out; have hnc98 := NB300_301.out; have hnb99 := NB301_0.out; have hnc99 := NB0_301.out; have hcz100_0 : w97.cell? ⟨gb301, 0, none⟩ = some (.int .i64 x302000_3) := (zK BK301.out 0).trans rfl; have hcz100_1 : w97.cell? ⟨gb301, 1, none⟩ = some (.int .i64 x302001_3) := (zK BK301.out 1).trans rfl; have hcz100_2 : w97.cell? ⟨gb301, 2, none⟩ = some (.string x302002_3) := (zK BK301.out 2).trans rfl; have hfz100_0 := zF BK301.out 0; have hfz100_1 := zF BK301.out 1; have hfz100_2 := zF BK301.out 2; have hnb101 := NB300_0.out; have hnc101 := NB0_300.out; have hcz102_0 : w97.cell? ⟨gb300, 0, none⟩ = some (.int .i64 0) := (zK BK300.out 0).trans rfl; have hcz102_1 : w97.cell? ⟨gb300, 1, none⟩ = some (.int .i64 0) := (zK BK300.out 1).trans rfl; have hcz102_2 : w97.cell? ⟨gb300, 2, none⟩ = some (.string (⟨#[]⟩ : ByteArray)) := (zK BK300.out 2).trans rfl; have hfz102_0 := zF BK300.out 0; have hfz102_1 := zF BK300.out 1; have hfz102_2 := zF BK300.out 2))
    refine bodyPost_ret (results_cell_row rfl _ _ gb300 27 #[.int .i64 x302000_3, .int .i64 x302001_3, .string x302002_3] (0, 0) _ rfl (by (with_reducible repeat (first | refine zX ?_ _ | refine zY ?_ | refine zZ ?_ _)); refine blk_put (cs := #[.int .i64 x302000_3, .int .i64 x302001_3, .string (⟨#[]⟩ : ByteArray)]) ?_ 2 _ rfl; (with_reducible repeat (first | refine zX ?_ _ | refine zY ?_ | refine zZ ?_ _)); refine blk_put (cs := #[.int .i64 x302000_3, .int .i64 0, .string (⟨#[]⟩ : ByteArray)]) ?_ 1 _ rfl; (with_reducible repeat (first | refine zX ?_ _ | refine zY ?_ | refine zZ ?_ _)); refine blk_put (cs := #[.int .i64 0, .int .i64 0, .string (⟨#[]⟩ : ByteArray)]) ?_ 0 _ rfl; (with_reducible repeat (first | refine zX ?_ _ | refine zY ?_ | refine zZ ?_ _)); exact BK300.out) Try.underlying27 rfl (by kernel_rfl)) rfl ?_
    exact ⟨by first | rfl | (simp [errW_none, errW_some] <;> rfl) | (simp [*, errW_none, errW_some] <;> rfl), by repeat (first | (with_reducible first | exact HI0.out | apply IsS69.alloc | apply IsS69.drewN | apply IsS69.drew | apply IsS69.set_1 | refine IsS69.far ?_ NB0_300.out _ | refine IsS69.far ?_ NB0_301.out _) | exact HI0.out), by repeat (first | (with_reducible first | exact HB.out | apply zU | apply zV | apply zW | refine zH ?_ (IsS69.ge HI0.out) | refine zH ?_ GE300.out | refine zH ?_ GE301.out) | exact HB.out), by repeat (first | (with_reducible first | exact HK.out | apply KeepBut.set_ | apply keep_drewN | apply keep_drew | apply keep_alloc | refine keep_far ?_ GW300.out _ | refine keep_far ?_ GW301.out _) | exact HK.out)⟩
end

end Go.Proofs.Ytdgikheibcmcjaa.X
