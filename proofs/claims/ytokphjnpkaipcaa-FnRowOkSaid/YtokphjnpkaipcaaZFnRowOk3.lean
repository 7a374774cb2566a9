/- Plain functions for the Go functions of this seat, and proofs that each call answers as its plain function does; made by this session's program over the kit's printer. -/
import Derived.Test.YtokphjnpkaipcaaX0
import Derived.Test.YtokphjnpkaipcaaZFnRowOk2
namespace Go.Proofs.Ytokphjnpkaipcaa.X
open Go.RowKit Go.Proofs.YtokphjnpkaipcaaV.PrintWords Go.Proofs.YtokphjnpkaipcaaV.PrintLast Go.Proofs.YtokphjnpkaipcaaV.PrintMore
attribute [local go_sem] max2_int min2_int max_two min_two max_three min_three max_four min_four   -- for this text's walks alone
set_option linter.unusedVariables false
set_option linter.unusedSimpArgs false

section
/-! ### spec_l20Value: function 68 -/
mutual
def spec_l20Value.j3 : Nat → Int → List Int → Int → Int → Int → ByteArray → Option (Int × Int × ByteArray × Int)
  | 0, _, _, _, _, _, _ => none
  | k + 1, x1, x1000, x1001, x433000, x433001, x433002 => (spec_l20Rd_odd.f k x1000 x1001 x1).bind fun bt454 => (if bt454.1 = true then ((spec_l20Rd_pick.f k x1000 bt454.2 4).bind fun bt456 => (if bt456.1 = 0 then (some (x433000, 10000, x433002, bt456.2)) else (if bt456.1 = 1 then (if x433002.size + 7 ≤ 9223372036854775807 then (some (x433000, x433001, x433002 ++ (⟨#[97, 98, 99, 100, 101, 102, 103]⟩ : ByteArray), bt456.2)) else (none)) else (if bt456.1 = 2 then ((spec_l20Rd_pick.f k x1000 bt456.2 7).bind fun bt458 => (some (wrap64 (bt458.1 - 1), x433001, x433002, bt458.2))) else (if x433002.size + 1 ≤ 9223372036854775807 then (some (x433000, x433001, x433002 ++ (⟨#[65]⟩ : ByteArray), bt456.2)) else (none)))))) else (some (x433000, x433001, x433002, bt454.2)))
def spec_l20Value.j0 : Nat → Int → Int → Bool → List Int → Int → Option (Int × Int × ByteArray × Int)
  | 0, _, _, _, _, _ => none
  | k + 1, x1, x9, x15, x1000, x1001 => if x15 = true then ((spec_l20Rd_pick.f k x1000 x1001 7).bind fun bt435 => ((spec_l20Rd_pick.f k x1000 bt435.2 8).bind fun bt437 => (if bt437.1 = 0 then ((some (([9999, (-9999), 255, 256, (-256)] : List Int) : List Int)).bind fun y439 => ((spec_l20Rd_pick.f k x1000 bt437.2 5).bind fun bt442 => (if 0 ≤ bt442.1 then (if bt442.1 < (y439.length : Int) then (spec_l20Value.j3 k x1 x1000 bt442.2 1 (rd y439 bt442.1) (⟨#[]⟩ : ByteArray)) else (none)) else (none)))) else (spec_l20Value.j3 k x1 x1000 bt437.2 1 (wrap64 (bt435.1 - 3)) (⟨#[]⟩ : ByteArray))))) else (if x9 = 4 then (spec_l20Value.j1 k x1 (x9 == 4) x1000 x1001) else (spec_l20Value.j1 k x1 (x9 == 5) x1000 x1001))
def spec_l20Value.j1 : Nat → Int → Bool → List Int → Int → Option (Int × Int × ByteArray × Int)
  | 0, _, _, _, _ => none
  | k + 1, x1, x32, x1000, x1001 => if x32 = true then ((spec_l20Rd_pick.f k x1000 x1001 4).bind fun bt445 => (spec_l20Value.l0 k x1 bt445.1 x1000 bt445.2 2 0 (⟨#[]⟩ : ByteArray))) else ((spec_l20Rd_pick.f k x1000 x1001 2).bind fun bt452 => (spec_l20Value.j3 k x1 x1000 bt452.2 3 bt452.1 (⟨#[]⟩ : ByteArray)))
def spec_l20Value.l0 : Nat → Int → Int → List Int → Int → Int → Int → ByteArray → Option (Int × Int × ByteArray × Int)
  | 0, _, _, _, _, _, _, _ => none
  | k + 1, x1, x6, x1000, x1001, x433000, x433001, x433002 => if x6 > 0 then ((spec_l20Rd_pick.f k x1000 x1001 3).bind fun bt447 => ((some (([(wrap64 (97 + bt447.1)) % 256] : List Int) : List Int)).bind fun y449 => (if x433002.size + (strOfNums y449).size ≤ 9223372036854775807 then (spec_l20Value.l0 k x1 (wrap64 (x6 - 1)) x1000 bt447.2 x433000 x433001 (x433002 ++ (strOfNums y449))) else (none)))) else (spec_l20Value.j3 k x1 x1000 x1001 x433000 x433001 x433002)
end
def spec_l20Value.f (k : Nat) (s0_0 : List Int) (s0_1 : Int) (a1 : Int) : Option (Int × Int × ByteArray × Int) := (spec_l20Rd_pick.f k s0_0 s0_1 7).bind fun bt433 => (if bt433.1 = 0 then (spec_l20Value.j3 k a1 s0_0 bt433.2 0 0 (⟨#[]⟩ : ByteArray)) else (if bt433.1 = 1 then (spec_l20Value.j0 k a1 bt433.1 (bt433.1 == 1) s0_0 bt433.2) else (if bt433.1 = 2 then (spec_l20Value.j0 k a1 bt433.1 (bt433.1 == 2) s0_0 bt433.2) else (spec_l20Value.j0 k a1 bt433.1 (bt433.1 == 3) s0_0 bt433.2))))
theorem spec_l20Value.mono_l : ∀ k, (∀ y0 y1 y2 y3 y4 y5, LeO (spec_l20Value.j3 k y0 y1 y2 y3 y4 y5) (spec_l20Value.j3 (k + 1) y0 y1 y2 y3 y4 y5)) ∧ (∀ y0 y1 y2 y3 y4, LeO (spec_l20Value.j0 k y0 y1 y2 y3 y4) (spec_l20Value.j0 (k + 1) y0 y1 y2 y3 y4)) ∧ (∀ y0 y1 y2 y3, LeO (spec_l20Value.j1 k y0 y1 y2 y3) (spec_l20Value.j1 (k + 1) y0 y1 y2 y3)) ∧ (∀ y0 y1 y2 y3 y4 y5 y6, LeO (spec_l20Value.l0 k y0 y1 y2 y3 y4 y5 y6) (spec_l20Value.l0 (k + 1) y0 y1 y2 y3 y4 y5 y6))
  | 0 => ⟨fun _ _ _ _ _ _ r h => by simp [spec_l20Value.j3] at h, fun _ _ _ _ _ r h => by simp [spec_l20Value.j0] at h, fun _ _ _ _ r h => by simp [spec_l20Value.j1] at h, fun _ _ _ _ _ _ _ r h => by simp [spec_l20Value.l0] at h⟩
  | k + 1 => by
    obtain ⟨ih0, ih1, ih2, ih3⟩ := spec_l20Value.mono_l k
    refine ⟨?_, ?_, ?_, ?_⟩
    · intro y0 y1 y2 y3 y4 y5
      unfold spec_l20Value.j3
      repeat' first
      | (with_reducible exact ih0 _ _ _ _ _ _)
      | (with_reducible exact ih1 _ _ _ _ _)
      | (with_reducible exact ih2 _ _ _ _)
      | (with_reducible exact ih3 _ _ _ _ _ _ _)
      | (with_reducible exact spec_l20Rd_odd.mono _ _ _ _)
      | (with_reducible exact spec_l20Rd_pick.mono _ _ _ _)
      | (with_reducible exact LeO.refl _)
      | (with_reducible exact LeO.none _)
      | (with_reducible refine LeO.ite ?_ ?_)
      | (with_reducible refine LeO.bind ?_ (fun _ => ?_))
      | exact ih0 _ _ _ _ _ _
      | exact ih1 _ _ _ _ _
      | exact ih2 _ _ _ _
      | exact ih3 _ _ _ _ _ _ _
      | exact spec_l20Rd_odd.mono _ _ _ _
      | exact spec_l20Rd_pick.mono _ _ _ _
      | exact LeO.none _
      | refine LeO.ite ?_ ?_
      | refine LeO.bind ?_ (fun _ => ?_)
    · intro y0 y1 y2 y3 y4
      unfold spec_l20Value.j0
      repeat' first
      | (with_reducible exact ih0 _ _ _ _ _ _)
      | (with_reducible exact ih1 _ _ _ _ _)
      | (with_reducible exact ih2 _ _ _ _)
      | (with_reducible exact ih3 _ _ _ _ _ _ _)
      | (with_reducible exact spec_l20Rd_odd.mono _ _ _ _)
      | (with_reducible exact spec_l20Rd_pick.mono _ _ _ _)
      | (with_reducible exact LeO.refl _)
      | (with_reducible exact LeO.none _)
      | (with_reducible refine LeO.ite ?_ ?_)
      | (with_reducible refine LeO.bind ?_ (fun _ => ?_))
      | exact ih0 _ _ _ _ _ _
      | exact ih1 _ _ _ _ _
      | exact ih2 _ _ _ _
      | exact ih3 _ _ _ _ _ _ _
      | exact spec_l20Rd_odd.mono _ _ _ _
      | exact spec_l20Rd_pick.mono _ _ _ _
      | exact LeO.none _
      | refine LeO.ite ?_ ?_
      | refine LeO.bind ?_ (fun _ => ?_)
    · intro y0 y1 y2 y3
      unfold spec_l20Value.j1
      repeat' first
      | (with_reducible exact ih0 _ _ _ _ _ _)
      | (with_reducible exact ih1 _ _ _ _ _)
      | (with_reducible exact ih2 _ _ _ _)
      | (with_reducible exact ih3 _ _ _ _ _ _ _)
      | (with_reducible exact spec_l20Rd_odd.mono _ _ _ _)
      | (with_reducible exact spec_l20Rd_pick.mono _ _ _ _)
      | (with_reducible exact LeO.refl _)
      | (with_reducible exact LeO.none _)
      | (with_reducible refine LeO.ite ?_ ?_)
      | (with_reducible refine LeO.bind ?_ (fun _ => ?_))
      | exact ih0 _ _ _ _ _ _
      | exact ih1 _ _ _ _ _
      | exact ih2 _ _ _ _
      | exact ih3 _ _ _ _ _ _ _
      | exact spec_l20Rd_odd.mono _ _ _ _
      | exact spec_l20Rd_pick.mono _ _ _ _
      | exact LeO.none _
      | refine LeO.ite ?_ ?_
      | refine LeO.bind ?_ (fun _ => ?_)
    · intro y0 y1 y2 y3 y4 y5 y6
      unfold spec_l20Value.l0
      repeat' first
      | (with_reducible exact ih0 _ _ _ _ _ _)
      | (with_reducible exact ih1 _ _ _ _ _)
      | (with_reducible exact ih2 _ _ _ _)
      | (with_reducible exact ih3 _ _ _ _ _ _ _)
      | (with_reducible exact spec_l20Rd_odd.mono _ _ _ _)
      | (with_reducible exact spec_l20Rd_pick.mono _ _ _ _)
      | (with_reducible exact LeO.refl _)
      | (with_reducible exact LeO.none _)
      | (with_reducible refine LeO.ite ?_ ?_)
      | (with_reducible refine LeO.bind ?_ (fun _ => ?_))
      | exact ih0 _ _ _ _ _ _
      | exact ih1 _ _ _ _ _
      | exact ih2 _ _ _ _
      | exact ih3 _ _ _ _ _ _ _
      | exact spec_l20Rd_odd.mono _ _ _ _
      | exact spec_l20Rd_pick.mono _ _ _ _
      | exact LeO.none _
      | refine LeO.ite ?_ ?_
      | refine LeO.bind ?_ (fun _ => ?_)
theorem spec_l20Value.mono : ∀ a0 a1 a2 k, LeO (spec_l20Value.f k a0 a1 a2) (spec_l20Value.f (k + 1) a0 a1 a2) := by
  intro a0 a1 a2 k
  obtain ⟨ih0, ih1, ih2, ih3⟩ := spec_l20Value.mono_l k
  unfold spec_l20Value.f
  repeat' first
      | (with_reducible exact ih0 _ _ _ _ _ _)
      | (with_reducible exact ih1 _ _ _ _ _)
      | (with_reducible exact ih2 _ _ _ _)
      | (with_reducible exact ih3 _ _ _ _ _ _ _)
      | (with_reducible exact spec_l20Rd_odd.mono _ _ _ _)
      | (with_reducible exact spec_l20Rd_pick.mono _ _ _ _)
      | (with_reducible exact LeO.refl _)
      | (with_reducible exact LeO.none _)
      | (with_reducible refine LeO.ite ?_ ?_)
      | (with_reducible refine LeO.bind ?_ (fun _ => ?_))
      | exact ih0 _ _ _ _ _ _
      | exact ih1 _ _ _ _ _
      | exact ih2 _ _ _ _
      | exact ih3 _ _ _ _ _ _ _
      | exact spec_l20Rd_odd.mono _ _ _ _
      | exact spec_l20Rd_pick.mono _ _ _ _
      | exact LeO.none _
      | refine LeO.ite ?_ ?_
      | refine LeO.bind ?_ (fun _ => ?_)
def spec_l20Value.T17 : Bool × List (List Nat × List Nat) := (true, [([], []), ([0], [0]), ([], []), ([2], [2]), ([3], [3]), ([4], [4]), ([5], [5]), ([6], [6]), ([1, 7], [1, 7]), ([0, 1, 2, 3, 4, 5, 6, 7, 8], []), ([9, 8, 3, 0, 1, 2, 3, 4, 5, 6, 7, 8], [8, 9])])
def spec_l20Value.B17 : List Nat := [0, 1, 0, 4, 12, 28, 60, 124, 255, 511, 1023]
theorem spec_l20Value.tab17 : rtab .any (opsOf Try.f68 17) = spec_l20Value.T17 := by kernel_rfl
theorem spec_l20Value.bits17 : waitsOk spec_l20Value.T17.2 spec_l20Value.B17 = true := by kernel_rfl
set_option maxHeartbeats 8000000 in
set_option maxRecDepth 100000 in
theorem spec_l20Value.calls (k : Nat) (g : Nat) (s0_0 : List Int) (s0_1 : Int) (a1 : Int) (r1 : Int) (r2 : Int) (r3 : ByteArray) (r4 : Int) (w0 w : World) (hI : IsS140 w0 w g s0_0 s0_1) (hB : Below w0.heap.size w0 w) (h : spec_l20Value.f k s0_0 s0_1 a1 = some (r1, r2, r3, r4)) :
    Calls Try.prog 68 #[.pointer (some ⟨g, 0, none⟩), .int .i64 a1] w fun e w' => e = .returned (.agg #[.int .i64 r1, .int .i64 r2, .string r3]) ∧ IsS140 w0 w' g s0_0 r4 ∧ Below w0.heap.size w0 w' ∧ KeepBut w w' g none := by
  have hu28 := Try.underlying28
  have HI0 := Aside0.mk hI
  have HK := Aside0.mk (KeepBut.refl w g none)
  have HL := Aside0.mk hB.size
  clear hI
  have HW0 := Aside0.mk hB.size
  have HB := Aside0.mk hB
  clear hB
  have H : ((spec_l20Rd_pick.f k s0_0 s0_1 7).bind fun bt433 => (if bt433.1 = 0 then (spec_l20Value.j3 k a1 s0_0 bt433.2 0 0 (⟨#[]⟩ : ByteArray)) else (if bt433.1 = 1 then (spec_l20Value.j0 k a1 bt433.1 (bt433.1 == 1) s0_0 bt433.2) else (if bt433.1 = 2 then (spec_l20Value.j0 k a1 bt433.1 (bt433.1 == 2) s0_0 bt433.2) else (spec_l20Value.j0 k a1 bt433.1 (bt433.1 == 3) s0_0 bt433.2))))) = some (r1, r2, r3, r4) := h
  clear h
  replace H := Option.bind_eq_some_iff.mp H
  obtain ⟨⟨t433, t434⟩, A30, H⟩ := H
  replace H : (if t433 = 0 then (spec_l20Value.j3 k a1 s0_0 t434 0 0 (⟨#[]⟩ : ByteArray)) else (if t433 = 1 then (spec_l20Value.j0 k a1 t433 (t433 == 1) s0_0 t434) else (if t433 = 2 then (spec_l20Value.j0 k a1 t433 (t433 == 2) s0_0 t434) else (spec_l20Value.j0 k a1 t433 (t433 == 3) s0_0 t434)))) = some (r1, r2, r3, r4) := H
  have A3 := Aside0.mk A30
  clear A30
  have HC4 := Aside0.mk H
  clear H
  go_enter Try.func68, Try.ntmps68
  go_upto_block 0 with (first | ((with_reducible refine gate_dst (N := 4) rfl ?_); refine box_event ?hg (N := 4) ?hd (cs := #[.int .i64 0, .int .i64 0, .string (⟨#[]⟩ : ByteArray)]) (t := 28) ?hr ?_; (case hd => rfl); (case hg => rfl); (case hr => first | (go_simp; done) | (go_simp; rfl)); intro gb431 hg w5 hbox hb; have n0_ := Aside0.mk (IsS140.below (by repeat (first | (with_reducible first | exact HI0.out | apply IsS140.alloc | apply IsS140.drewN | apply IsS140.drew | apply IsS140.set_1) | exact HI0.out)) hb); have n1_ := Aside0.mk (KeepBut.trans (by repeat (first | (with_reducible first | exact HK.out | apply KeepBut.set_ | apply keep_drewN | apply keep_drew | apply keep_alloc) | exact HK.out)) (KeepBut.of_below hb g none) (.inl rfl)); have n2_ := Aside0.mk (below_step (by repeat (first | (with_reducible first | exact HB.out | apply below_alloc | apply pw_below_drewN | apply below_drew1 | refine below_set ?_ (IsS140.ge HI0.out)) | exact HB.out)) hb); have n3_ := Aside0.mk (hbox); have n4_ := Aside0.mk ((by rw [hg]; exact (keep_size (w := w) (g := g) (row := none) (by repeat (first | (with_reducible first | exact HK.out | apply KeepBut.set_ | apply keep_drewN | apply keep_drew | apply keep_alloc) | exact HK.out))) : w.heap.size ≤ gb431)); have n5_ := Aside0.mk ((Nat.le_trans HW0.out (by rw [hg]; exact (keep_size (w := w) (g := g) (row := none) (by repeat (first | (with_reducible first | exact HK.out | apply KeepBut.set_ | apply keep_drewN | apply keep_drew | apply keep_alloc) | exact HK.out))) : w.heap.size ≤ gb431) : w0.heap.size ≤ gb431)); have n6_ := Aside0.mk ((by rw [hg]; exact Nat.ne_of_lt (IsS140.lt (show IsS140 w0 _ g s0_0 s0_1 from by repeat (first | (with_reducible first | exact HI0.out | apply IsS140.alloc | apply IsS140.drewN | apply IsS140.drew | apply IsS140.set_1) | exact HI0.out))) : g ≠ gb431)); have n7_ := Aside0.mk ((by rw [hg]; exact Nat.ne_of_gt (IsS140.lt (show IsS140 w0 _ g s0_0 s0_1 from by repeat (first | (with_reducible first | exact HI0.out | apply IsS140.alloc | apply IsS140.drewN | apply IsS140.drew | apply IsS140.set_1) | exact HI0.out))) : gb431 ≠ g)); clear HI0; clear HK; clear HB; have HI0 := n0_; have HK := n1_; have HB := n2_; have BK431 := n3_; have GW431 := n4_; have GE431 := n5_; have NB0_431 := n6_; have NB431_0 := n7_; clear n0_ n1_ n2_ n3_ n4_ n5_ n6_ n7_; clear hb hbox hg) | ((with_reducible refine gate_dst (N := 5) rfl ?_); refine box_event ?hg (N := 5) ?hd (cs := #[.int .i64 0, .int .i64 0, .string (⟨#[]⟩ : ByteArray)]) (t := 28) ?hr ?_; (case hd => rfl); (case hg => rfl); (case hr => first | (go_simp; done) | (go_simp; rfl)); intro gb432 hg w6 hbox hb; have n0_ := Aside0.mk (IsS140.below (by repeat (first | (with_reducible first | exact HI0.out | apply IsS140.alloc | apply IsS140.drewN | apply IsS140.drew | apply IsS140.set_1 | refine IsS140.far ?_ NB0_431.out _) | exact HI0.out)) hb); have n1_ := Aside0.mk (blk_below (g := gb431) (o := .cells #[.int .i64 0, .int .i64 0, .string (⟨#[]⟩ : ByteArray)] 28 (0, 0)) (by (with_reducible repeat (first | refine blk_drewN ?_ _ | refine blk_drew ?_ | refine blk_alloc ?_ _)); exact BK431.out) hb); have n2_ := Aside0.mk (KeepBut.trans (by repeat (first | (with_reducible first | exact HK.out | apply KeepBut.set_ | apply keep_drewN | apply keep_drew | apply keep_alloc | refine keep_far ?_ GW431.out _) | exact HK.out)) (KeepBut.of_below hb g none) (.inl rfl)); have n3_ := Aside0.mk (below_step (by repeat (first | (with_reducible first | exact HB.out | apply below_alloc | apply pw_below_drewN | apply below_drew1 | refine below_set ?_ (IsS140.ge HI0.out) | refine below_set ?_ GE431.out) | exact HB.out)) hb); have n4_ := Aside0.mk (hbox); have n5_ := Aside0.mk ((by rw [hg]; exact (keep_size (w := w) (g := g) (row := none) (by repeat (first | (with_reducible first | exact HK.out | apply KeepBut.set_ | apply keep_drewN | apply keep_drew | apply keep_alloc | refine keep_far ?_ GW431.out _) | exact HK.out))) : w.heap.size ≤ gb432)); have n6_ := Aside0.mk ((Nat.le_trans HW0.out (by rw [hg]; exact (keep_size (w := w) (g := g) (row := none) (by repeat (first | (with_reducible first | exact HK.out | apply KeepBut.set_ | apply keep_drewN | apply keep_drew | apply keep_alloc | refine keep_far ?_ GW431.out _) | exact HK.out))) : w.heap.size ≤ gb432) : w0.heap.size ≤ gb432)); have n7_ := Aside0.mk ((by rw [hg]; exact Nat.ne_of_lt (blk_lt (g := gb431) (o := .cells #[.int .i64 0, .int .i64 0, .string (⟨#[]⟩ : ByteArray)] 28 (0, 0)) (by (with_reducible repeat (first | refine blk_drewN ?_ _ | refine blk_drew ?_ | refine blk_alloc ?_ _)); exact BK431.out)) : gb431 ≠ gb432)); have n8_ := Aside0.mk ((by rw [hg]; exact Nat.ne_of_gt (blk_lt (g := gb431) (o := .cells #[.int .i64 0, .int .i64 0, .string (⟨#[]⟩ : ByteArray)] 28 (0, 0)) (by (with_reducible repeat (first | refine blk_drewN ?_ _ | refine blk_drew ?_ | refine blk_alloc ?_ _)); exact BK431.out)) : gb432 ≠ gb431)); have n9_ := Aside0.mk ((by rw [hg]; exact Nat.ne_of_lt (IsS140.lt (show IsS140 w0 _ g s0_0 s0_1 from by repeat (first | (with_reducible first | exact HI0.out | apply IsS140.alloc | apply IsS140.drewN | apply IsS140.drew | apply IsS140.set_1 | refine IsS140.far ?_ NB0_431.out _) | exact HI0.out))) : g ≠ gb432)); have n10_ := Aside0.mk ((by rw [hg]; exact Nat.ne_of_gt (IsS140.lt (show IsS140 w0 _ g s0_0 s0_1 from by repeat (first | (with_reducible first | exact HI0.out | apply IsS140.alloc | apply IsS140.drewN | apply IsS140.drew | apply IsS140.set_1 | refine IsS140.far ?_ NB0_431.out _) | exact HI0.out))) : gb432 ≠ g)); clear HI0; clear BK431; clear HK; clear HB; have HI0 := n0_; have BK431 := n1_; have HK := n2_; have HB := n3_; have BK432 := n4_; have GW432 := n5_; have GE432 := n6_; have NB431_432 := n7_; have NB432_431 := n8_; have NB0_432 := n9_; have NB432_0 := n10_; clear n0_ n1_ n2_ n3_ n4_ n5_ n6_ n7_ n8_ n9_ n10_; clear hb hbox hg; have hnb7 := NB432_431.out; have hnc7 := NB431_432.out; have hnb8 := NB432_0.out; have hnc8 := NB0_432.out; have hcz9_0 : w6.cell? ⟨gb432, 0, none⟩ = some (.int .i64 0) := (blk_cell BK432.out 0).trans rfl; have hcz9_1 : w6.cell? ⟨gb432, 1, none⟩ = some (.int .i64 0) := (blk_cell BK432.out 1).trans rfl; have hcz9_2 : w6.cell? ⟨gb432, 2, none⟩ = some (.string (⟨#[]⟩ : ByteArray)) := (blk_cell BK432.out 2).trans rfl; have hfz9_0 := blk_frozen BK432.out 0; have hfz9_1 := blk_frozen BK432.out 1; have hfz9_2 := blk_frozen BK432.out 2) | ((with_reducible refine gate_callee (f := 110) rfl ?_); refine goesL_ (some 9) rfl rfl Try.func110 (by kernel_rfl) rfl #[.pointer (some ⟨g, 0, none⟩), .int .i64 7] rfl (by (try simp only [List.map_toArray, List.map_cons, List.map_nil]); first | done | rfl | (simp only [List.length_drop, List.length_take]; rfl)) ?_; (with_reducible refine (spec_l20Rd_pick.calls k g s0_0 s0_1 7 t433 t434 w0 _ ?side1 ?side2 A3.out).mono ?_); (case side1 => repeat (first | (with_reducible first | exact HI0.out | apply IsS140.alloc | apply IsS140.drewN | apply IsS140.drew | apply IsS140.set_1 | refine IsS140.far ?_ NB0_431.out _ | refine IsS140.far ?_ NB0_432.out _) | exact HI0.out)); (case side2 => repeat (first | (with_reducible first | exact HB.out | apply below_alloc | apply pw_below_drewN | apply below_drew1 | refine below_set ?_ (IsS140.ge HI0.out) | refine below_set ?_ GE431.out | refine below_set ?_ GE432.out) | exact HB.out)); rintro e w10 ⟨rfl, hi, hb, hk⟩; refine ⟨_, rfl, ?_⟩; have n0_ := Aside0.mk (KeepBut.blk hk (g' := gb431) (o := .cells #[.int .i64 0, .int .i64 0, .string (⟨#[]⟩ : ByteArray)] 28 (0, 0)) (by (with_reducible repeat (first | refine blk_drewN ?_ _ | refine blk_drew ?_ | refine blk_alloc ?_ _)); refine blk_far ?_ NB431_432.out _; (with_reducible repeat (first | refine blk_drewN ?_ _ | refine blk_drew ?_ | refine blk_alloc ?_ _)); refine blk_far ?_ NB431_432.out _; (with_reducible repeat (first | refine blk_drewN ?_ _ | refine blk_drew ?_ | refine blk_alloc ?_ _)); refine blk_far ?_ NB431_432.out _; (with_reducible repeat (first | refine blk_drewN ?_ _ | refine blk_drew ?_ | refine blk_alloc ?_ _)); exact BK431.out) NB431_0.out (by simp)); have n1_ := Aside0.mk (KeepBut.blk hk (g' := gb432) (o := .cells #[.int .i64 0, .int .i64 0, .string (⟨#[]⟩ : ByteArray)] 28 (0, 0)) (by (with_reducible repeat (first | refine blk_drewN ?_ _ | refine blk_drew ?_ | refine blk_alloc ?_ _)); refine blk_put (cs := #[.int .i64 0, .int .i64 0, .string (⟨#[]⟩ : ByteArray)]) ?_ 2 _ rfl; (with_reducible repeat (first | refine blk_drewN ?_ _ | refine blk_drew ?_ | refine blk_alloc ?_ _)); refine blk_put (cs := #[.int .i64 0, .int .i64 0, .string (⟨#[]⟩ : ByteArray)]) ?_ 1 _ rfl; (with_reducible repeat (first | refine blk_drewN ?_ _ | refine blk_drew ?_ | refine blk_alloc ?_ _)); refine blk_put (cs := #[.int .i64 0, .int .i64 0, .string (⟨#[]⟩ : ByteArray)]) ?_ 0 _ rfl; (with_reducible repeat (first | refine blk_drewN ?_ _ | refine blk_drew ?_ | refine blk_alloc ?_ _)); exact BK432.out) NB432_0.out (by simp)); have n2_ := Aside0.mk (KeepBut.trans (by repeat (first | (with_reducible first | exact HK.out | apply KeepBut.set_ | apply keep_drewN | apply keep_drew | apply keep_alloc | refine keep_far ?_ GW431.out _ | refine keep_far ?_ GW432.out _) | exact HK.out)) hk (.inl rfl)); have n3_ := Aside0.mk (hb); have n4_ := Aside0.mk (hi); clear BK431; clear BK432; clear HK; clear HB; clear HI0; have BK431 := n0_; have BK432 := n1_; have HK := n2_; have HB := n3_; have HI0 := n4_; clear n0_ n1_ n2_ n3_ n4_; (try clear hb); (try clear hb2); (try clear hk); (try clear hi)))
  (try simp only [Act.put, List.setIfInBounds_toArray, List.set_cons_zero, List.set_cons_succ])
  go_cut [] (fun wc => ∃ (kq : Nat) (x1001_3 : Int) (x433000_3 : Int) (x433001_3 : Int) (x433002_3 : ByteArray), Aside0 (spec_l20Value.j3 kq a1 s0_0 x1001_3 x433000_3 x433001_3 x433002_3 = some (r1, r2, r3, r4)) ∧ Aside0 (kq ≤ k) ∧ Aside0 (wc.heap[gb431]? = some (.cells #[.int .i64 0, .int .i64 0, .string (⟨#[]⟩ : ByteArray)] 28 (0, 0))) ∧ Aside0 (wc.heap[gb432]? = some (.cells #[.int .i64 x433000_3, .int .i64 x433001_3, .string x433002_3] 28 (0, 0))) ∧ Aside0 (IsS140 w0 wc g s0_0 x1001_3) ∧ Aside0 (KeepBut w wc g none) ∧ Aside0 (Below w0.heap.size w0 wc))
  case first =>
    have H := HC4.out
    clear HC4
    by_cases c11 : t433 = 0
    · rw [if_pos c11] at H
      have c11b0 : (t433 == 0) = true := beq_iff_eq.mpr c11
      have c11b1 : (t433 != 0) = false := bne_eq_false_iff_eq.mpr c11
      clear c11
      (first | rw [c11b0] | (simp only [i64_w, i32_w]; rw [c11b0]) | skip)
      have H' := Aside0.mk H
      clear H
      go_wp2
      go_meet
      case rel => exact ⟨_, (t434), (0), (0), ((⟨#[]⟩ : ByteArray)), H', ⟨by first | omega | exact Nat.le_refl _⟩, ⟨by (with_reducible repeat (first | refine blk_drewN ?_ _ | refine blk_drew ?_ | refine blk_alloc ?_ _)); exact BK431.out⟩, ⟨by (with_reducible repeat (first | refine blk_drewN ?_ _ | refine blk_drew ?_ | refine blk_alloc ?_ _)); exact BK432.out⟩, ⟨by repeat (first | (with_reducible first | exact HI0.out | apply IsS140.alloc | apply IsS140.drewN | apply IsS140.drew | apply IsS140.set_1 | refine IsS140.far ?_ NB0_431.out _ | refine IsS140.far ?_ NB0_432.out _) | exact HI0.out)⟩, ⟨by repeat (first | (with_reducible first | exact HK.out | apply KeepBut.set_ | apply keep_drewN | apply keep_drew | apply keep_alloc | refine keep_far ?_ GW431.out _ | refine keep_far ?_ GW432.out _) | exact HK.out)⟩, ⟨by repeat (first | (with_reducible first | exact HB.out | apply below_alloc | apply pw_below_drewN | apply below_drew1 | refine below_set ?_ (IsS140.ge HI0.out) | refine below_set ?_ GE431.out | refine below_set ?_ GE432.out) | exact HB.out)⟩⟩
    · rw [if_neg c11] at H
      have c11b0 : (t433 == 0) = false := beq_eq_false_iff_ne.mpr c11
      have c11b1 : (t433 != 0) = true := bne_iff_ne.mpr c11
      (first | rw [c11b0] | (simp only [i64_w, i32_w]; rw [c11b0]) | skip)
      have HC12 := Aside0.mk H
      clear H
      go_upto_if 15 with (fail)
      go_cut [15] (fun v15 wc => ∃ (kq : Nat) (x15_11 : Bool), v15 = .bool x15_11 ∧ Aside0 (spec_l20Value.j0 kq a1 t433 x15_11 s0_0 t434 = some (r1, r2, r3, r4)) ∧ Aside0 (kq ≤ k) ∧ Aside0 (wc.heap[gb431]? = some (.cells #[.int .i64 0, .int .i64 0, .string (⟨#[]⟩ : ByteArray)] 28 (0, 0))) ∧ Aside0 (wc.heap[gb432]? = some (.cells #[.int .i64 0, .int .i64 0, .string (⟨#[]⟩ : ByteArray)] 28 (0, 0))) ∧ Aside0 (IsS140 w0 wc g s0_0 t434) ∧ Aside0 (KeepBut w wc g none) ∧ Aside0 (Below w0.heap.size w0 wc))
      case first =>
        have H := HC12.out
        clear HC12
        by_cases c13 : t433 = 1
        · rw [if_pos c13] at H
          have c13b0 : (t433 == 1) = true := beq_iff_eq.mpr c13
          have c13b1 : (t433 != 1) = false := bne_eq_false_iff_eq.mpr c13
          clear c13
          (first | rw [c13b0] | (simp only [i64_w, i32_w]; rw [c13b0]) | skip)
          have H' := Aside0.mk H
          clear H
          go_wp2
          go_meet
          case rel => exact ⟨_, ((t433 == 1)), (by first | rfl | (simp; done) | (simp [*]; done)), H', ⟨by first | omega | exact Nat.le_refl _⟩, ⟨by (with_reducible repeat (first | refine blk_drewN ?_ _ | refine blk_drew ?_ | refine blk_alloc ?_ _)); exact BK431.out⟩, ⟨by (with_reducible repeat (first | refine blk_drewN ?_ _ | refine blk_drew ?_ | refine blk_alloc ?_ _)); exact BK432.out⟩, ⟨by repeat (first | (with_reducible first | exact HI0.out | apply IsS140.alloc | apply IsS140.drewN | apply IsS140.drew | apply IsS140.set_1 | refine IsS140.far ?_ NB0_431.out _ | refine IsS140.far ?_ NB0_432.out _) | exact HI0.out)⟩, ⟨by repeat (first | (with_reducible first | exact HK.out | apply KeepBut.set_ | apply keep_drewN | apply keep_drew | apply keep_alloc | refine keep_far ?_ GW431.out _ | refine keep_far ?_ GW432.out _) | exact HK.out)⟩, ⟨by repeat (first | (with_reducible first | exact HB.out | apply below_alloc | apply pw_below_drewN | apply below_drew1 | refine below_set ?_ (IsS140.ge HI0.out) | refine below_set ?_ GE431.out | refine below_set ?_ GE432.out) | exact HB.out)⟩⟩
        · rw [if_neg c13] at H
          have c13b0 : (t433 == 1) = false := beq_eq_false_iff_ne.mpr c13
          have c13b1 : (t433 != 1) = true := bne_iff_ne.mpr c13
          (first | rw [c13b0] | (simp only [i64_w, i32_w]; rw [c13b0]) | skip)
          by_cases c14 : t433 = 2
          · rw [if_pos c14] at H
            have c14b0 : (t433 == 2) = true := beq_iff_eq.mpr c14
            have c14b1 : (t433 != 2) = false := bne_eq_false_iff_eq.mpr c14
            clear c14
            have H' := Aside0.mk H
            clear H
            go_wp2
            go_meet
            case rel => exact ⟨_, ((t433 == 2)), (by first | rfl | (simp; done) | (simp [*]; done)), H', ⟨by first | omega | exact Nat.le_refl _⟩, ⟨by (with_reducible repeat (first | refine blk_drewN ?_ _ | refine blk_drew ?_ | refine blk_alloc ?_ _)); exact BK431.out⟩, ⟨by (with_reducible repeat (first | refine blk_drewN ?_ _ | refine blk_drew ?_ | refine blk_alloc ?_ _)); exact BK432.out⟩, ⟨by repeat (first | (with_reducible first | exact HI0.out | apply IsS140.alloc | apply IsS140.drewN | apply IsS140.drew | apply IsS140.set_1 | refine IsS140.far ?_ NB0_431.out _ | refine IsS140.far ?_ NB0_432.out _) | exact HI0.out)⟩, ⟨by repeat (first | (with_reducible first | exact HK.out | apply KeepBut.set_ | apply keep_drewN | apply keep_drew | apply keep_alloc | refine keep_far ?_ GW431.out _ | refine keep_far ?_ GW432.out _) | exact HK.out)⟩, ⟨by repeat (first | (with_reducible first | exact HB.out | apply below_alloc | apply pw_below_drewN | apply below_drew1 | refine below_set ?_ (IsS140.ge HI0.out) | refine below_set ?_ GE431.out | refine below_set ?_ GE432.out) | exact HB.out)⟩⟩
          · rw [if_neg c14] at H
            have c14b0 : (t433 == 2) = false := beq_eq_false_iff_ne.mpr c14
            have c14b1 : (t433 != 2) = true := bne_iff_ne.mpr c14
            have H' := Aside0.mk H
            clear H
            go_wp2
            go_meet
            case rel => exact ⟨_, ((t433 == 3)), (by first | rfl | (simp; done) | (simp [*]; done)), H', ⟨by first | omega | exact Nat.le_refl _⟩, ⟨by (with_reducible repeat (first | refine blk_drewN ?_ _ | refine blk_drew ?_ | refine blk_alloc ?_ _)); exact BK431.out⟩, ⟨by (with_reducible repeat (first | refine blk_drewN ?_ _ | refine blk_drew ?_ | refine blk_alloc ?_ _)); exact BK432.out⟩, ⟨by repeat (first | (with_reducible first | exact HI0.out | apply IsS140.alloc | apply IsS140.drewN | apply IsS140.drew | apply IsS140.set_1 | refine IsS140.far ?_ NB0_431.out _ | refine IsS140.far ?_ NB0_432.out _) | exact HI0.out)⟩, ⟨by repeat (first | (with_reducible first | exact HK.out | apply KeepBut.set_ | apply keep_drewN | apply keep_drew | apply keep_alloc | refine keep_far ?_ GW431.out _ | refine keep_far ?_ GW432.out _) | exact HK.out)⟩, ⟨by repeat (first | (with_reducible first | exact HB.out | apply below_alloc | apply pw_below_drewN | apply below_drew1 | refine below_set ?_ (IsS140.ge HI0.out) | refine below_set ?_ GE431.out | refine below_set ?_ GE432.out) | exact HB.out)⟩⟩
      case rest =>
        clear HC12
        try clear c1
        try clear p2
        try clear c6
        try clear c7
        try clear c8
        try clear c11
        try clear c11b0
        try clear c11b1
        try clear c13
        try clear c13b0
        try clear c13b1
        try clear c14
        try clear c14b0
        try clear c14b1
        try clear hcz9_0
        try clear hcz9_1
        try clear hcz9_2
        try clear hfz9_0
        try clear hfz9_1
        try clear hfz9_2
        obtain ⟨kq, x15_11, rfl, HA, HJ11, BK431, BK432, HI0, HK, HB⟩ := hcut
        cases kq with
        | zero => exact absurd HA.out (by simp [spec_l20Value.j0])
        | succ kj11 =>
          have H := HA.out
          clear HA
          simp only [spec_l20Value.j0] at H
          by_cases c15 : x15_11 = true
          · subst c15
            have H1 : ((spec_l20Rd_pick.f kj11 s0_0 t434 7).bind fun bt435 => ((spec_l20Rd_pick.f kj11 s0_0 bt435.2 8).bind fun bt437 => (if bt437.1 = 0 then ((some (([9999, (-9999), 255, 256, (-256)] : List Int) : List Int)).bind fun y439 => ((spec_l20Rd_pick.f kj11 s0_0 bt437.2 5).bind fun bt442 => (if 0 ≤ bt442.1 then (if bt442.1 < (y439.length : Int) then (spec_l20Value.j3 kj11 a1 s0_0 bt442.2 1 (rd y439 bt442.1) (⟨#[]⟩ : ByteArray)) else (none)) else (none)))) else (spec_l20Value.j3 kj11 a1 s0_0 bt437.2 1 (wrap64 (bt435.1 - 3)) (⟨#[]⟩ : ByteArray))))) = some (r1, r2, r3, r4) := by rw [if_pos rfl] at H; exact H
            clear H
            have H := H1
            clear H1
            replace H := Option.bind_eq_some_iff.mp H
            obtain ⟨⟨t435, t436⟩, A160, H⟩ := H
            replace H : ((spec_l20Rd_pick.f kj11 s0_0 t436 8).bind fun bt437 => (if bt437.1 = 0 then ((some (([9999, (-9999), 255, 256, (-256)] : List Int) : List Int)).bind fun y439 => ((spec_l20Rd_pick.f kj11 s0_0 bt437.2 5).bind fun bt442 => (if 0 ≤ bt442.1 then (if bt442.1 < (y439.length : Int) then (spec_l20Value.j3 kj11 a1 s0_0 bt442.2 1 (rd y439 bt442.1) (⟨#[]⟩ : ByteArray)) else (none)) else (none)))) else (spec_l20Value.j3 kj11 a1 s0_0 bt437.2 1 (wrap64 (t435 - 3)) (⟨#[]⟩ : ByteArray)))) = some (r1, r2, r3, r4) := H
            have A16 := Aside0.mk A160
            clear A160
            replace H := Option.bind_eq_some_iff.mp H
            obtain ⟨⟨t437, t438⟩, A170, H⟩ := H
            replace H : (if t437 = 0 then ((some (([9999, (-9999), 255, 256, (-256)] : List Int) : List Int)).bind fun y439 => ((spec_l20Rd_pick.f kj11 s0_0 t438 5).bind fun bt442 => (if 0 ≤ bt442.1 then (if bt442.1 < (y439.length : Int) then (spec_l20Value.j3 kj11 a1 s0_0 bt442.2 1 (rd y439 bt442.1) (⟨#[]⟩ : ByteArray)) else (none)) else (none)))) else (spec_l20Value.j3 kj11 a1 s0_0 t438 1 (wrap64 (t435 - 3)) (⟨#[]⟩ : ByteArray))) = some (r1, r2, r3, r4) := H
            have A17 := Aside0.mk A170
            clear A170
            by_cases c18 : t437 = 0
            · rw [if_pos c18] at H
              have c18b0 : (t437 == 0) = true := beq_iff_eq.mpr c18
              have c18b1 : (t437 != 0) = false := bne_eq_false_iff_eq.mpr c18
              clear c18
              obtain ⟨y439, hy439⟩ : ∃ y_ : List Int, y_ = (([9999, (-9999), 255, 256, (-256)] : List Int)) := ⟨_, rfl⟩
              replace H : ((spec_l20Rd_pick.f kj11 s0_0 t438 5).bind fun bt442 => (if 0 ≤ bt442.1 then (if bt442.1 < (y439.length : Int) then (spec_l20Value.j3 kj11 a1 s0_0 bt442.2 1 (rd y439 bt442.1) (⟨#[]⟩ : ByteArray)) else (none)) else (none))) = some (r1, r2, r3, r4) := by first | (rw [hy439]; with_reducible exact H) | (have H2_ := (Option.bind_some _ _).symm.trans H; rw [hy439]; with_reducible exact H2_) | (have H2_ := (Option.bind_some _ _).symm.trans H; with_reducible exact H2_) | with_reducible exact H | (rw [hy439]; exact H) | exact H
              have Ny439 := Aside0.mk hy439
              clear hy439
              replace H := Option.bind_eq_some_iff.mp H
              obtain ⟨⟨t442, t443⟩, A190, H⟩ := H
              replace H : (if 0 ≤ t442 then (if t442 < (y439.length : Int) then (spec_l20Value.j3 kj11 a1 s0_0 t443 1 (rd y439 t442) (⟨#[]⟩ : ByteArray)) else (none)) else (none)) = some (r1, r2, r3, r4) := H
              have A19 := Aside0.mk A190
              clear A190
              by_cases c20 : 0 ≤ t442
              · rw [if_pos c20] at H
                have c20b0 : decide (0 ≤ t442) = true := decide_eq_true c20
                clear c20
                by_cases c21 : t442 < (y439.length : Int)
                · rw [if_pos c21] at H
                  have c21b0 : decide (t442 < (y439.length : Int)) = true := decide_eq_true c21
                  clear c21
                  have H' := Aside0.mk H
                  clear H
                  go_wp2_with (first | ((with_reducible refine gate_callee (f := 110) rfl ?_); refine goesL_ (some 20) rfl rfl Try.func110 (by kernel_rfl) rfl #[.pointer (some ⟨g, 0, none⟩), .int .i64 7] rfl (by (try simp only [List.map_toArray, List.map_cons, List.map_nil]); first | done | rfl | (simp only [List.length_drop, List.length_take]; rfl)) ?_; (with_reducible refine (spec_l20Rd_pick.calls kj11 g s0_0 t434 7 t435 t436 w0 _ ?side1 ?side2 A16.out).mono ?_); (case side1 => repeat (first | (with_reducible first | exact HI0.out | apply IsS140.alloc | apply IsS140.drewN | apply IsS140.drew | apply IsS140.set_1 | refine IsS140.far ?_ NB0_431.out _ | refine IsS140.far ?_ NB0_432.out _) | exact HI0.out)); (case side2 => repeat (first | (with_reducible first | exact HB.out | apply below_alloc | apply pw_below_drewN | apply below_drew1 | refine below_set ?_ (IsS140.ge HI0.out) | refine below_set ?_ GE431.out | refine below_set ?_ GE432.out) | exact HB.out)); rintro e w22 ⟨rfl, hi, hb, hk⟩; refine ⟨_, rfl, ?_⟩; have n0_ := Aside0.mk (KeepBut.blk hk (g' := gb431) (o := .cells #[.int .i64 0, .int .i64 0, .string (⟨#[]⟩ : ByteArray)] 28 (0, 0)) (by (with_reducible repeat (first | refine blk_drewN ?_ _ | refine blk_drew ?_ | refine blk_alloc ?_ _)); exact BK431.out) NB431_0.out (by simp)); have n1_ := Aside0.mk (KeepBut.blk hk (g' := gb432) (o := .cells #[.int .i64 0, .int .i64 0, .string (⟨#[]⟩ : ByteArray)] 28 (0, 0)) (by (with_reducible repeat (first | refine blk_drewN ?_ _ | refine blk_drew ?_ | refine blk_alloc ?_ _)); exact BK432.out) NB432_0.out (by simp)); have n2_ := Aside0.mk (KeepBut.trans (by repeat (first | (with_reducible first | exact HK.out | apply KeepBut.set_ | apply keep_drewN | apply keep_drew | apply keep_alloc | refine keep_far ?_ GW431.out _ | refine keep_far ?_ GW432.out _) | exact HK.out)) hk (.inl rfl)); have n3_ := Aside0.mk (hb); have n4_ := Aside0.mk (hi); clear BK431; clear BK432; clear HK; clear HB; clear HI0; have BK431 := n0_; have BK432 := n1_; have HK := n2_; have HB := n3_; have HI0 := n4_; clear n0_ n1_ n2_ n3_ n4_; (try clear hb); (try clear hb2); (try clear hk); (try clear hi); have hnb23 := NB432_431.out; have hnc23 := NB431_432.out; have hnb24 := NB432_0.out; have hnc24 := NB0_432.out; have hcz25_0 : w22.cell? ⟨gb432, 0, none⟩ = some (.int .i64 0) := (blk_cell BK432.out 0).trans rfl; have hcz25_1 : w22.cell? ⟨gb432, 1, none⟩ = some (.int .i64 0) := (blk_cell BK432.out 1).trans rfl; have hcz25_2 : w22.cell? ⟨gb432, 2, none⟩ = some (.string (⟨#[]⟩ : ByteArray)) := (blk_cell BK432.out 2).trans rfl; have hfz25_0 := blk_frozen BK432.out 0; have hfz25_1 := blk_frozen BK432.out 1; have hfz25_2 := blk_frozen BK432.out 2) | ((with_reducible refine gate_callee (f := 110) rfl ?_); refine goesL_ (some 24) rfl rfl Try.func110 (by kernel_rfl) rfl #[.pointer (some ⟨g, 0, none⟩), .int .i64 8] rfl (by (try simp only [List.map_toArray, List.map_cons, List.map_nil]); first | done | rfl | (simp only [List.length_drop, List.length_take]; rfl)) ?_; (with_reducible refine (spec_l20Rd_pick.calls kj11 g s0_0 t436 8 t437 t438 w0 _ ?side1 ?side2 A17.out).mono ?_); (case side1 => repeat (first | (with_reducible first | exact HI0.out | apply IsS140.alloc | apply IsS140.drewN | apply IsS140.drew | apply IsS140.set_1 | refine IsS140.far ?_ NB0_431.out _ | refine IsS140.far ?_ NB0_432.out _) | exact HI0.out)); (case side2 => repeat (first | (with_reducible first | exact HB.out | apply below_alloc | apply pw_below_drewN | apply below_drew1 | refine below_set ?_ (IsS140.ge HI0.out) | refine below_set ?_ GE431.out | refine below_set ?_ GE432.out) | exact HB.out)); rintro e w26 ⟨rfl, hi, hb, hk⟩; refine ⟨_, rfl, ?_⟩; have n0_ := Aside0.mk (KeepBut.blk hk (g' := gb431) (o := .cells #[.int .i64 0, .int .i64 0, .string (⟨#[]⟩ : ByteArray)] 28 (0, 0)) (by (with_reducible repeat (first | refine blk_drewN ?_ _ | refine blk_drew ?_ | refine blk_alloc ?_ _)); refine blk_far ?_ NB431_432.out _; (with_reducible repeat (first | refine blk_drewN ?_ _ | refine blk_drew ?_ | refine blk_alloc ?_ _)); refine blk_far ?_ NB431_432.out _; (with_reducible repeat (first | refine blk_drewN ?_ _ | refine blk_drew ?_ | refine blk_alloc ?_ _)); refine blk_far ?_ NB431_432.out _; (with_reducible repeat (first | refine blk_drewN ?_ _ | refine blk_drew ?_ | refine blk_alloc ?_ _)); exact BK431.out) NB431_0.out (by simp)); have n1_ := Aside0.mk (KeepBut.blk hk (g' := gb432) (o := .cells #[.int .i64 1, .int .i64 (wrap64 (t435 - 3)), .string (⟨#[]⟩ : ByteArray)] 28 (0, 0)) (by (with_reducible repeat (first | refine blk_drewN ?_ _ | refine blk_drew ?_ | refine blk_alloc ?_ _)); refine blk_put (cs := #[.int .i64 1, .int .i64 (wrap64 (t435 - 3)), .string (⟨#[]⟩ : ByteArray)]) ?_ 2 _ rfl; (with_reducible repeat (first | refine blk_drewN ?_ _ | refine blk_drew ?_ | refine blk_alloc ?_ _)); refine blk_put (cs := #[.int .i64 1, .int .i64 0, .string (⟨#[]⟩ : ByteArray)]) ?_ 1 _ rfl; (with_reducible repeat (first | refine blk_drewN ?_ _ | refine blk_drew ?_ | refine blk_alloc ?_ _)); refine blk_put (cs := #[.int .i64 0, .int .i64 0, .string (⟨#[]⟩ : ByteArray)]) ?_ 0 _ rfl; (with_reducible repeat (first | refine blk_drewN ?_ _ | refine blk_drew ?_ | refine blk_alloc ?_ _)); exact BK432.out) NB432_0.out (by simp)); have n2_ := Aside0.mk (KeepBut.trans (by repeat (first | (with_reducible first | exact HK.out | apply KeepBut.set_ | apply keep_drewN | apply keep_drew | apply keep_alloc | refine keep_far ?_ GW431.out _ | refine keep_far ?_ GW432.out _) | exact HK.out)) hk (.inl rfl)); have n3_ := Aside0.mk (hb); have n4_ := Aside0.mk (hi); clear BK431; clear BK432; clear HK; clear HB; clear HI0; have BK431 := n0_; have BK432 := n1_; have HK := n2_; have HB := n3_; have HI0 := n4_; clear n0_ n1_ n2_ n3_ n4_; (try clear hb); (try clear hb2); (try clear hk); (try clear hi)) | ((with_reducible refine gate_dst (N := 26) rfl ?_); refine Kd.R_lit (Kd.int .i64) _ 3 ?hg (N := 26) ?hd (xs := ([9999, (-9999), 255, 256, (-256)] : List Int)) (inner := [.int .i64 9999, .int .i64 (-9999), .int .i64 255, .int .i64 256, .int .i64 (-256)]) (ok := fun _ => True) (okp := fun _ => True) ?hr ?hp (fun _ hk => hk) trivial (Below.refl _ _) (Nat.le_refl _) (by simp) ?_; (case hd => rfl); (case hg => rfl); (case hr => first | (go_simp; done) | (go_simp; rfl)); (case hp => exact (Reps.one (show Kd.M (Kd.int .i64) _ _ _ 9999 [.int .i64 9999] from rfl) (Reps.one (show Kd.M (Kd.int .i64) _ _ _ (-9999) [.int .i64 (-9999)] from rfl) (Reps.one (show Kd.M (Kd.int .i64) _ _ _ 255 [.int .i64 255] from rfl) (Reps.one (show Kd.M (Kd.int .i64) _ _ _ 256 [.int .i64 256] from rfl) (Reps.one (show Kd.M (Kd.int .i64) _ _ _ (-256) [.int .i64 (-256)] from rfl) (Reps.none _ _))))))); intro v440 w27 ho28 hb hg_ hnew_; clear hg_ hnew_; (first | rw [← Ny439.out] at ho28 | (simp only [Int.reduceToNat] at ho28; rw [← Ny439.out] at ho28)); have n0_ := Aside0.mk (Kd.R_lower ho28 (keep_size (w := w) (g := g) (row := none) (by repeat (first | (with_reducible first | exact HK.out | apply KeepBut.set_ | apply keep_drewN | apply keep_drew | apply keep_alloc | refine keep_far ?_ GW431.out _ | refine keep_far ?_ GW432.out _) | exact HK.out)))); have n1_ := Aside0.mk (blk_below (g := gb431) (o := .cells #[.int .i64 0, .int .i64 0, .string (⟨#[]⟩ : ByteArray)] 28 (0, 0)) (by (with_reducible repeat (first | refine blk_drewN ?_ _ | refine blk_drew ?_ | refine blk_alloc ?_ _)); exact BK431.out) hb); have n2_ := Aside0.mk (blk_below (g := gb432) (o := .cells #[.int .i64 1, .int .i64 (wrap64 (t435 - 3)), .string (⟨#[]⟩ : ByteArray)] 28 (0, 0)) (by (with_reducible repeat (first | refine blk_drewN ?_ _ | refine blk_drew ?_ | refine blk_alloc ?_ _)); exact BK432.out) hb); have n3_ := Aside0.mk (IsS140.below (by repeat (first | (with_reducible first | exact HI0.out | apply IsS140.alloc | apply IsS140.drewN | apply IsS140.drew | apply IsS140.set_1 | refine IsS140.far ?_ NB0_431.out _ | refine IsS140.far ?_ NB0_432.out _) | exact HI0.out)) hb); have n4_ := Aside0.mk (KeepBut.trans (by repeat (first | (with_reducible first | exact HK.out | apply KeepBut.set_ | apply keep_drewN | apply keep_drew | apply keep_alloc | refine keep_far ?_ GW431.out _ | refine keep_far ?_ GW432.out _) | exact HK.out)) (KeepBut.of_below hb g none) (.inl rfl)); have n5_ := Aside0.mk (below_step (by repeat (first | (with_reducible first | exact HB.out | apply below_alloc | apply pw_below_drewN | apply below_drew1 | refine below_set ?_ (IsS140.ge HI0.out) | refine below_set ?_ GE431.out | refine below_set ?_ GE432.out) | exact HB.out)) hb); clear BK431; clear BK432; clear HI0; clear HK; clear HB; have HO441 := n0_; have BK431 := n1_; have BK432 := n2_; have HI0 := n3_; have HK := n4_; have HB := n5_; clear n0_ n1_ n2_ n3_ n4_ n5_; clear hb ho28) | ((with_reducible refine gate_callee (f := 110) rfl ?_); refine goesL_ (some 28) rfl rfl Try.func110 (by kernel_rfl) rfl #[.pointer (some ⟨g, 0, none⟩), .int .i64 5] rfl (by (try simp only [List.map_toArray, List.map_cons, List.map_nil]); first | done | rfl | (simp only [List.length_drop, List.length_take]; rfl)) ?_; (with_reducible refine (spec_l20Rd_pick.calls kj11 g s0_0 t438 5 t442 t443 w0 _ ?side1 ?side2 A19.out).mono ?_); (case side1 => repeat (first | (with_reducible first | exact HI0.out | apply IsS140.alloc | apply IsS140.drewN | apply IsS140.drew | apply IsS140.set_1 | refine IsS140.far ?_ NB0_431.out _ | refine IsS140.far ?_ NB0_432.out _) | exact HI0.out)); (case side2 => repeat (first | (with_reducible first | exact HB.out | apply below_alloc | apply pw_below_drewN | apply below_drew1 | refine below_set ?_ (IsS140.ge HI0.out) | refine below_set ?_ GE431.out | refine below_set ?_ GE432.out) | exact HB.out)); rintro e w29 ⟨rfl, hi, hb, hk⟩; refine ⟨_, rfl, ?_⟩; have n0_ := Aside0.mk (KeepBut.blk hk (g' := gb431) (o := .cells #[.int .i64 0, .int .i64 0, .string (⟨#[]⟩ : ByteArray)] 28 (0, 0)) (by (with_reducible repeat (first | refine blk_drewN ?_ _ | refine blk_drew ?_ | refine blk_alloc ?_ _)); exact BK431.out) NB431_0.out (by simp)); have n1_ := Aside0.mk (KeepBut.blk hk (g' := gb432) (o := .cells #[.int .i64 1, .int .i64 (wrap64 (t435 - 3)), .string (⟨#[]⟩ : ByteArray)] 28 (0, 0)) (by (with_reducible repeat (first | refine blk_drewN ?_ _ | refine blk_drew ?_ | refine blk_alloc ?_ _)); exact BK432.out) NB432_0.out (by simp)); have n2_ := Aside0.mk (Kd.R_mono (Kd.R_keep (IsS140.apart (show IsS140 w0 _ g s0_0 t438 from by repeat (first | (with_reducible first | exact HI0.out | apply IsS140.alloc | apply IsS140.drewN | apply IsS140.drew | apply IsS140.set_1 | refine IsS140.far ?_ NB0_431.out _ | refine IsS140.far ?_ NB0_432.out _) | exact HI0.out)) (by (with_reducible repeat (first | apply Kd.R_alloc | apply Kd.R_drewN | apply Kd.R_drew)); exact HO441.out) (by decide)) hk (fun _ h => h.2)) (fun _ h => h.1)); have n3_ := Aside0.mk (KeepBut.trans (by repeat (first | (with_reducible first | exact HK.out | apply KeepBut.set_ | apply keep_drewN | apply keep_drew | apply keep_alloc | refine keep_far ?_ GW431.out _ | refine keep_far ?_ GW432.out _) | exact HK.out)) hk (.inl rfl)); have n4_ := Aside0.mk (hb); have n5_ := Aside0.mk (hi); clear BK431; clear BK432; clear HO441; clear HK; clear HB; clear HI0; have BK431 := n0_; have BK432 := n1_; have HO441 := n2_; have HK := n3_; have HB := n4_; have HI0 := n5_; clear n0_ n1_ n2_ n3_ n4_ n5_; (try clear hb); (try clear hb2); (try clear hk); (try clear hi); obtain ⟨Ao30, co30, eo30⟩ := Kd.R_slice HO441.out; subst eo30; have p444 : 0 ≤ (t442 : Int) := of_decide_eq_true (by first | (with_reducible assumption) | assumption); have q444 : t442 < (y439.length : Int) := of_decide_eq_true (by first | (with_reducible assumption) | assumption); obtain ⟨ad444, e444, hx444_0⟩ := Kd.at_int (Kd.R_reads' HO441.out).2.2 t442 p444 q444; cases e444; replace p444 := eq_true p444; replace q444 := eq_true q444; have hcz31_0 : w29.cell? ⟨gb432, 0, none⟩ = some (.int .i64 1) := (blk_cell BK432.out 0).trans rfl; have hcz31_1 : w29.cell? ⟨gb432, 1, none⟩ = some (.int .i64 (wrap64 (t435 - 3))) := (blk_cell BK432.out 1).trans rfl; have hcz31_2 : w29.cell? ⟨gb432, 2, none⟩ = some (.string (⟨#[]⟩ : ByteArray)) := (blk_cell BK432.out 2).trans rfl; have hfz31_0 := blk_frozen BK432.out 0; have hfz31_1 := blk_frozen BK432.out 1; have hfz31_2 := blk_frozen BK432.out 2))
                  go_meet
                  case rel => exact ⟨_, (t443), (1), (rd y439 t442), ((⟨#[]⟩ : ByteArray)), H', ⟨by have := HJ11.out; first | omega | exact Nat.le_refl _⟩, ⟨by (with_reducible repeat (first | refine blk_drewN ?_ _ | refine blk_drew ?_ | refine blk_alloc ?_ _)); refine blk_far ?_ NB431_432.out _; (with_reducible repeat (first | refine blk_drewN ?_ _ | refine blk_drew ?_ | refine blk_alloc ?_ _)); exact BK431.out⟩, ⟨by (with_reducible repeat (first | refine blk_drewN ?_ _ | refine blk_drew ?_ | refine blk_alloc ?_ _)); refine blk_put (cs := #[.int .i64 1, .int .i64 (wrap64 (t435 - 3)), .string (⟨#[]⟩ : ByteArray)]) ?_ 1 _ rfl; (with_reducible repeat (first | refine blk_drewN ?_ _ | refine blk_drew ?_ | refine blk_alloc ?_ _)); exact BK432.out⟩, ⟨by repeat (first | (with_reducible first | exact HI0.out | apply IsS140.alloc | apply IsS140.drewN | apply IsS140.drew | apply IsS140.set_1 | refine IsS140.far ?_ NB0_431.out _ | refine IsS140.far ?_ NB0_432.out _) | exact HI0.out)⟩, ⟨by repeat (first | (with_reducible first | exact HK.out | apply KeepBut.set_ | apply keep_drewN | apply keep_drew | apply keep_alloc | refine keep_far ?_ GW431.out _ | refine keep_far ?_ GW432.out _) | exact HK.out)⟩, ⟨by repeat (first | (with_reducible first | exact HB.out | apply below_alloc | apply pw_below_drewN | apply below_drew1 | refine below_set ?_ (IsS140.ge HI0.out) | refine below_set ?_ GE431.out | refine below_set ?_ GE432.out) | exact HB.out)⟩⟩
                · rw [if_neg c21] at H
                  exact absurd H (by simp)
              · rw [if_neg c20] at H
                exact absurd H (by simp)
            · rw [if_neg c18] at H
              have c18b0 : (t437 == 0) = false := beq_eq_false_iff_ne.mpr c18
              have c18b1 : (t437 != 0) = true := bne_iff_ne.mpr c18
              have H' := Aside0.mk H
              clear H
              go_wp2_with (first | ((with_reducible refine gate_callee (f := 110) rfl ?_); refine goesL_ (some 20) rfl rfl Try.func110 (by kernel_rfl) rfl #[.pointer (some ⟨g, 0, none⟩), .int .i64 7] rfl (by (try simp only [List.map_toArray, List.map_cons, List.map_nil]); first | done | rfl | (simp only [List.length_drop, List.length_take]; rfl)) ?_; (with_reducible refine (spec_l20Rd_pick.calls kj11 g s0_0 t434 7 t435 t436 w0 _ ?side1 ?side2 A16.out).mono ?_); (case side1 => repeat (first | (with_reducible first | exact HI0.out | apply IsS140.alloc | apply IsS140.drewN | apply IsS140.drew | apply IsS140.set_1 | refine IsS140.far ?_ NB0_431.out _ | refine IsS140.far ?_ NB0_432.out _) | exact HI0.out)); (case side2 => repeat (first | (with_reducible first | exact HB.out | apply below_alloc | apply pw_below_drewN | apply below_drew1 | refine below_set ?_ (IsS140.ge HI0.out) | refine below_set ?_ GE431.out | refine below_set ?_ GE432.out) | exact HB.out)); rintro e w32 ⟨rfl, hi, hb, hk⟩; refine ⟨_, rfl, ?_⟩; have n0_ := Aside0.mk (KeepBut.blk hk (g' := gb431) (o := .cells #[.int .i64 0, .int .i64 0, .string (⟨#[]⟩ : ByteArray)] 28 (0, 0)) (by (with_reducible repeat (first | refine blk_drewN ?_ _ | refine blk_drew ?_ | refine blk_alloc ?_ _)); exact BK431.out) NB431_0.out (by simp)); have n1_ := Aside0.mk (KeepBut.blk hk (g' := gb432) (o := .cells #[.int .i64 0, .int .i64 0, .string (⟨#[]⟩ : ByteArray)] 28 (0, 0)) (by (with_reducible repeat (first | refine blk_drewN ?_ _ | refine blk_drew ?_ | refine blk_alloc ?_ _)); exact BK432.out) NB432_0.out (by simp)); have n2_ := Aside0.mk (KeepBut.trans (by repeat (first | (with_reducible first | exact HK.out | apply KeepBut.set_ | apply keep_drewN | apply keep_drew | apply keep_alloc | refine keep_far ?_ GW431.out _ | refine keep_far ?_ GW432.out _) | exact HK.out)) hk (.inl rfl)); have n3_ := Aside0.mk (hb); have n4_ := Aside0.mk (hi); clear BK431; clear BK432; clear HK; clear HB; clear HI0; have BK431 := n0_; have BK432 := n1_; have HK := n2_; have HB := n3_; have HI0 := n4_; clear n0_ n1_ n2_ n3_ n4_; (try clear hb); (try clear hb2); (try clear hk); (try clear hi); have hnb33 := NB432_431.out; have hnc33 := NB431_432.out; have hnb34 := NB432_0.out; have hnc34 := NB0_432.out; have hcz35_0 : w32.cell? ⟨gb432, 0, none⟩ = some (.int .i64 0) := (blk_cell BK432.out 0).trans rfl; have hcz35_1 : w32.cell? ⟨gb432, 1, none⟩ = some (.int .i64 0) := (blk_cell BK432.out 1).trans rfl; have hcz35_2 : w32.cell? ⟨gb432, 2, none⟩ = some (.string (⟨#[]⟩ : ByteArray)) := (blk_cell BK432.out 2).trans rfl; have hfz35_0 := blk_frozen BK432.out 0; have hfz35_1 := blk_frozen BK432.out 1; have hfz35_2 := blk_frozen BK432.out 2) | ((with_reducible refine gate_callee (f := 110) rfl ?_); refine goesL_ (some 24) rfl rfl Try.func110 (by kernel_rfl) rfl #[.pointer (some ⟨g, 0, none⟩), .int .i64 8] rfl (by (try simp only [List.map_toArray, List.map_cons, List.map_nil]); first | done | rfl | (simp only [List.length_drop, List.length_take]; rfl)) ?_; (with_reducible refine (spec_l20Rd_pick.calls kj11 g s0_0 t436 8 t437 t438 w0 _ ?side1 ?side2 A17.out).mono ?_); (case side1 => repeat (first | (with_reducible first | exact HI0.out | apply IsS140.alloc | apply IsS140.drewN | apply IsS140.drew | apply IsS140.set_1 | refine IsS140.far ?_ NB0_431.out _ | refine IsS140.far ?_ NB0_432.out _) | exact HI0.out)); (case side2 => repeat (first | (with_reducible first | exact HB.out | apply below_alloc | apply pw_below_drewN | apply below_drew1 | refine below_set ?_ (IsS140.ge HI0.out) | refine below_set ?_ GE431.out | refine below_set ?_ GE432.out) | exact HB.out)); rintro e w36 ⟨rfl, hi, hb, hk⟩; refine ⟨_, rfl, ?_⟩; have n0_ := Aside0.mk (KeepBut.blk hk (g' := gb431) (o := .cells #[.int .i64 0, .int .i64 0, .string (⟨#[]⟩ : ByteArray)] 28 (0, 0)) (by (with_reducible repeat (first | refine blk_drewN ?_ _ | refine blk_drew ?_ | refine blk_alloc ?_ _)); refine blk_far ?_ NB431_432.out _; (with_reducible repeat (first | refine blk_drewN ?_ _ | refine blk_drew ?_ | refine blk_alloc ?_ _)); refine blk_far ?_ NB431_432.out _; (with_reducible repeat (first | refine blk_drewN ?_ _ | refine blk_drew ?_ | refine blk_alloc ?_ _)); refine blk_far ?_ NB431_432.out _; (with_reducible repeat (first | refine blk_drewN ?_ _ | refine blk_drew ?_ | refine blk_alloc ?_ _)); exact BK431.out) NB431_0.out (by simp)); have n1_ := Aside0.mk (KeepBut.blk hk (g' := gb432) (o := .cells #[.int .i64 1, .int .i64 (wrap64 (t435 - 3)), .string (⟨#[]⟩ : ByteArray)] 28 (0, 0)) (by (with_reducible repeat (first | refine blk_drewN ?_ _ | refine blk_drew ?_ | refine blk_alloc ?_ _)); refine blk_put (cs := #[.int .i64 1, .int .i64 (wrap64 (t435 - 3)), .string (⟨#[]⟩ : ByteArray)]) ?_ 2 _ rfl; (with_reducible repeat (first | refine blk_drewN ?_ _ | refine blk_drew ?_ | refine blk_alloc ?_ _)); refine blk_put (cs := #[.int .i64 1, .int .i64 0, .string (⟨#[]⟩ : ByteArray)]) ?_ 1 _ rfl; (with_reducible repeat (first | refine blk_drewN ?_ _ | refine blk_drew ?_ | refine blk_alloc ?_ _)); refine blk_put (cs := #[.int .i64 0, .int .i64 0, .string (⟨#[]⟩ : ByteArray)]) ?_ 0 _ rfl; (with_reducible repeat (first | refine blk_drewN ?_ _ | refine blk_drew ?_ | refine blk_alloc ?_ _)); exact BK432.out) NB432_0.out (by simp)); have n2_ := Aside0.mk (KeepBut.trans (by repeat (first | (with_reducible first | exact HK.out | apply KeepBut.set_ | apply keep_drewN | apply keep_drew | apply keep_alloc | refine keep_far ?_ GW431.out _ | refine keep_far ?_ GW432.out _) | exact HK.out)) hk (.inl rfl)); have n3_ := Aside0.mk (hb); have n4_ := Aside0.mk (hi); clear BK431; clear BK432; clear HK; clear HB; clear HI0; have BK431 := n0_; have BK432 := n1_; have HK := n2_; have HB := n3_; have HI0 := n4_; clear n0_ n1_ n2_ n3_ n4_; (try clear hb); (try clear hb2); (try clear hk); (try clear hi)))
              go_meet
              case rel => exact ⟨_, (t438), (1), (wrap64 (t435 - 3)), ((⟨#[]⟩ : ByteArray)), H', ⟨by have := HJ11.out; first | omega | exact Nat.le_refl _⟩, ⟨by (with_reducible repeat (first | refine blk_drewN ?_ _ | refine blk_drew ?_ | refine blk_alloc ?_ _)); exact BK431.out⟩, ⟨by (with_reducible repeat (first | refine blk_drewN ?_ _ | refine blk_drew ?_ | refine blk_alloc ?_ _)); exact BK432.out⟩, ⟨by repeat (first | (with_reducible first | exact HI0.out | apply IsS140.alloc | apply IsS140.drewN | apply IsS140.drew | apply IsS140.set_1 | refine IsS140.far ?_ NB0_431.out _ | refine IsS140.far ?_ NB0_432.out _) | exact HI0.out)⟩, ⟨by repeat (first | (with_reducible first | exact HK.out | apply KeepBut.set_ | apply keep_drewN | apply keep_drew | apply keep_alloc | refine keep_far ?_ GW431.out _ | refine keep_far ?_ GW432.out _) | exact HK.out)⟩, ⟨by repeat (first | (with_reducible first | exact HB.out | apply below_alloc | apply pw_below_drewN | apply below_drew1 | refine below_set ?_ (IsS140.ge HI0.out) | refine below_set ?_ GE431.out | refine below_set ?_ GE432.out) | exact HB.out)⟩⟩
          · replace c15 := Bool.eq_false_iff.mpr c15
            subst c15
            have H1 : (if t433 = 4 then (spec_l20Value.j1 kj11 a1 (t433 == 4) s0_0 t434) else (spec_l20Value.j1 kj11 a1 (t433 == 5) s0_0 t434)) = some (r1, r2, r3, r4) := by rw [if_neg (show ¬ (false = true) by decide)] at H; exact H
            clear H
            have H := H1
            clear H1
            have HC37 := Aside0.mk H
            clear H
            go_upto_if 32 with (fail)
            go_cut [32] (fun v32 wc => ∃ (kq : Nat) (x32_36 : Bool), v32 = .bool x32_36 ∧ Aside0 (spec_l20Value.j1 kq a1 x32_36 s0_0 t434 = some (r1, r2, r3, r4)) ∧ Aside0 (kq ≤ kj11) ∧ Aside0 (wc.heap[gb431]? = some (.cells #[.int .i64 0, .int .i64 0, .string (⟨#[]⟩ : ByteArray)] 28 (0, 0))) ∧ Aside0 (wc.heap[gb432]? = some (.cells #[.int .i64 0, .int .i64 0, .string (⟨#[]⟩ : ByteArray)] 28 (0, 0))) ∧ Aside0 (IsS140 w0 wc g s0_0 t434) ∧ Aside0 (KeepBut w wc g none) ∧ Aside0 (Below w0.heap.size w0 wc))
            case first =>
              have H := HC37.out
              clear HC37
              by_cases c38 : t433 = 4
              · rw [if_pos c38] at H
                have c38b0 : (t433 == 4) = true := beq_iff_eq.mpr c38
                have c38b1 : (t433 != 4) = false := bne_eq_false_iff_eq.mpr c38
                clear c38
                (first | rw [c38b0] | (simp only [i64_w, i32_w]; rw [c38b0]) | skip)
                have H' := Aside0.mk H
                clear H
                go_wp2
                go_meet
                case rel => exact ⟨_, ((t433 == 4)), (by first | rfl | (simp; done) | (simp [*]; done)), H', ⟨by have := HJ11.out; first | omega | exact Nat.le_refl _⟩, ⟨by (with_reducible repeat (first | refine blk_drewN ?_ _ | refine blk_drew ?_ | refine blk_alloc ?_ _)); exact BK431.out⟩, ⟨by (with_reducible repeat (first | refine blk_drewN ?_ _ | refine blk_drew ?_ | refine blk_alloc ?_ _)); exact BK432.out⟩, ⟨by repeat (first | (with_reducible first | exact HI0.out | apply IsS140.alloc | apply IsS140.drewN | apply IsS140.drew | apply IsS140.set_1 | refine IsS140.far ?_ NB0_431.out _ | refine IsS140.far ?_ NB0_432.out _) | exact HI0.out)⟩, ⟨by repeat (first | (with_reducible first | exact HK.out | apply KeepBut.set_ | apply keep_drewN | apply keep_drew | apply keep_alloc | refine keep_far ?_ GW431.out _ | refine keep_far ?_ GW432.out _) | exact HK.out)⟩, ⟨by repeat (first | (with_reducible first | exact HB.out | apply below_alloc | apply pw_below_drewN | apply below_drew1 | refine below_set ?_ (IsS140.ge HI0.out) | refine below_set ?_ GE431.out | refine below_set ?_ GE432.out) | exact HB.out)⟩⟩
              · rw [if_neg c38] at H
                have c38b0 : (t433 == 4) = false := beq_eq_false_iff_ne.mpr c38
                have c38b1 : (t433 != 4) = true := bne_iff_ne.mpr c38
                (first | rw [c38b0] | (simp only [i64_w, i32_w]; rw [c38b0]) | skip)
                have H' := Aside0.mk H
                clear H
                go_wp2
                go_meet
                case rel => exact ⟨_, ((t433 == 5)), (by first | rfl | (simp; done) | (simp [*]; done)), H', ⟨by have := HJ11.out; first | omega | exact Nat.le_refl _⟩, ⟨by (with_reducible repeat (first | refine blk_drewN ?_ _ | refine blk_drew ?_ | refine blk_alloc ?_ _)); exact BK431.out⟩, ⟨by (with_reducible repeat (first | refine blk_drewN ?_ _ | refine blk_drew ?_ | refine blk_alloc ?_ _)); exact BK432.out⟩, ⟨by repeat (first | (with_reducible first | exact HI0.out | apply IsS140.alloc | apply IsS140.drewN | apply IsS140.drew | apply IsS140.set_1 | refine IsS140.far ?_ NB0_431.out _ | refine IsS140.far ?_ NB0_432.out _) | exact HI0.out)⟩, ⟨by repeat (first | (with_reducible first | exact HK.out | apply KeepBut.set_ | apply keep_drewN | apply keep_drew | apply keep_alloc | refine keep_far ?_ GW431.out _ | refine keep_far ?_ GW432.out _) | exact HK.out)⟩, ⟨by repeat (first | (with_reducible first | exact HB.out | apply below_alloc | apply pw_below_drewN | apply below_drew1 | refine below_set ?_ (IsS140.ge HI0.out) | refine below_set ?_ GE431.out | refine below_set ?_ GE432.out) | exact HB.out)⟩⟩
            case rest =>
              clear HC37
              try clear c1
              try clear c2
              try clear p2
              try clear c3
              try clear p4
              try clear q4
              try clear hx4
              try clear c6
              try clear p6
              try clear c7
              try clear c8
              try clear c11
              try clear c11b0
              try clear c11b1
              try clear c13
              try clear c13b0
              try clear c13b1
              try clear c14
              try clear c14b0
              try clear c14b1
              try clear c15
              try clear c18
              try clear c18b0
              try clear c18b1
              try clear c20
              try clear c20b0
              try clear c21
              try clear c21b0
              try clear c23
              try clear c24
              try clear c33
              try clear c34
              try clear c38
              try clear c38b0
              try clear c38b1
              try clear hcz25_0
              try clear hcz25_1
              try clear hcz25_2
              try clear hcz31_0
              try clear hcz31_1
              try clear hcz31_2
              try clear hcz35_0
              try clear hcz35_1
              try clear hcz35_2
              try clear hcz9_0
              try clear hcz9_1
              try clear hcz9_2
              try clear hfz25_0
              try clear hfz25_1
              try clear hfz25_2
              try clear hfz31_0
              try clear hfz31_1
              try clear hfz31_2
              try clear hfz35_0
              try clear hfz35_1
              try clear hfz35_2
              try clear hfz9_0
              try clear hfz9_1
              try clear hfz9_2
              try clear hx444_0
              try clear p2
              try clear p444
              try clear q444
              obtain ⟨kq, x32_36, rfl, HA, HJ36, BK431, BK432, HI0, HK, HB⟩ := hcut
              cases kq with
              | zero => exact absurd HA.out (by simp [spec_l20Value.j1])
              | succ kj36 =>
                have H := HA.out
                clear HA
                simp only [spec_l20Value.j1] at H
                by_cases c39 : x32_36 = true
                · subst c39
                  have H1 : ((spec_l20Rd_pick.f kj36 s0_0 t434 4).bind fun bt445 => (spec_l20Value.l0 kj36 a1 bt445.1 s0_0 bt445.2 2 0 (⟨#[]⟩ : ByteArray))) = some (r1, r2, r3, r4) := by rw [if_pos rfl] at H; exact H
                  clear H
                  have H := H1
                  clear H1
                  replace H := Option.bind_eq_some_iff.mp H
                  obtain ⟨⟨t445, t446⟩, A400, H⟩ := H
                  replace H : (spec_l20Value.l0 kj36 a1 t445 s0_0 t446 2 0 (⟨#[]⟩ : ByteArray)) = some (r1, r2, r3, r4) := H
                  have A40 := Aside0.mk A400
                  clear A400
                  have H' := Aside0.mk H
                  clear H
                  have hnb41 := NB432_431.out
                  have hnc41 := NB431_432.out
                  have hnb42 := NB432_0.out
                  have hnc42 := NB0_432.out
                  have hcz43_0 : wc.cell? ⟨gb432, 0, none⟩ = some (.int .i64 0) := (blk_cell BK432.out 0).trans rfl
                  have hcz43_1 : wc.cell? ⟨gb432, 1, none⟩ = some (.int .i64 0) := (blk_cell BK432.out 1).trans rfl
                  have hcz43_2 : wc.cell? ⟨gb432, 2, none⟩ = some (.string (⟨#[]⟩ : ByteArray)) := (blk_cell BK432.out 2).trans rfl
                  have hfz43_0 := blk_frozen BK432.out 0
                  have hfz43_1 := blk_frozen BK432.out 1
                  have hfz43_2 := blk_frozen BK432.out 2
                  go_wp2_with (first | ((with_reducible refine gate_callee (f := 110) rfl ?_); refine goesL_ (some 37) rfl rfl Try.func110 (by kernel_rfl) rfl #[.pointer (some ⟨g, 0, none⟩), .int .i64 4] rfl (by (try simp only [List.map_toArray, List.map_cons, List.map_nil]); first | done | rfl | (simp only [List.length_drop, List.length_take]; rfl)) ?_; (with_reducible refine (spec_l20Rd_pick.calls kj36 g s0_0 t434 4 t445 t446 w0 _ ?side1 ?side2 A40.out).mono ?_); (case side1 => repeat (first | (with_reducible first | exact HI0.out | apply IsS140.alloc | apply IsS140.drewN | apply IsS140.drew | apply IsS140.set_1 | refine IsS140.far ?_ NB0_431.out _ | refine IsS140.far ?_ NB0_432.out _) | exact HI0.out)); (case side2 => repeat (first | (with_reducible first | exact HB.out | apply below_alloc | apply pw_below_drewN | apply below_drew1 | refine below_set ?_ (IsS140.ge HI0.out) | refine below_set ?_ GE431.out | refine below_set ?_ GE432.out) | exact HB.out)); rintro e w44 ⟨rfl, hi, hb, hk⟩; refine ⟨_, rfl, ?_⟩; have n0_ := Aside0.mk (KeepBut.blk hk (g' := gb431) (o := .cells #[.int .i64 0, .int .i64 0, .string (⟨#[]⟩ : ByteArray)] 28 (0, 0)) (by (with_reducible repeat (first | refine blk_drewN ?_ _ | refine blk_drew ?_ | refine blk_alloc ?_ _)); refine blk_far ?_ NB431_432.out _; (with_reducible repeat (first | refine blk_drewN ?_ _ | refine blk_drew ?_ | refine blk_alloc ?_ _)); refine blk_far ?_ NB431_432.out _; (with_reducible repeat (first | refine blk_drewN ?_ _ | refine blk_drew ?_ | refine blk_alloc ?_ _)); refine blk_far ?_ NB431_432.out _; (with_reducible repeat (first | refine blk_drewN ?_ _ | refine blk_drew ?_ | refine blk_alloc ?_ _)); exact BK431.out) NB431_0.out (by simp)); have n1_ := Aside0.mk (KeepBut.blk hk (g' := gb432) (o := .cells #[.int .i64 2, .int .i64 0, .string (⟨#[]⟩ : ByteArray)] 28 (0, 0)) (by (with_reducible repeat (first | refine blk_drewN ?_ _ | refine blk_drew ?_ | refine blk_alloc ?_ _)); refine blk_put (cs := #[.int .i64 2, .int .i64 0, .string (⟨#[]⟩ : ByteArray)]) ?_ 2 _ rfl; (with_reducible repeat (first | refine blk_drewN ?_ _ | refine blk_drew ?_ | refine blk_alloc ?_ _)); refine blk_put (cs := #[.int .i64 2, .int .i64 0, .string (⟨#[]⟩ : ByteArray)]) ?_ 1 _ rfl; (with_reducible repeat (first | refine blk_drewN ?_ _ | refine blk_drew ?_ | refine blk_alloc ?_ _)); refine blk_put (cs := #[.int .i64 0, .int .i64 0, .string (⟨#[]⟩ : ByteArray)]) ?_ 0 _ rfl; (with_reducible repeat (first | refine blk_drewN ?_ _ | refine blk_drew ?_ | refine blk_alloc ?_ _)); exact BK432.out) NB432_0.out (by simp)); have n2_ := Aside0.mk (KeepBut.trans (by repeat (first | (with_reducible first | exact HK.out | apply KeepBut.set_ | apply keep_drewN | apply keep_drew | apply keep_alloc | refine keep_far ?_ GW431.out _ | refine keep_far ?_ GW432.out _) | exact HK.out)) hk (.inl rfl)); have n3_ := Aside0.mk (hb); have n4_ := Aside0.mk (hi); clear BK431; clear BK432; clear HK; clear HB; clear HI0; have BK431 := n0_; have BK432 := n1_; have HK := n2_; have HB := n3_; have HI0 := n4_; clear n0_ n1_ n2_ n3_ n4_; (try clear hb); (try clear hb2); (try clear hk); (try clear hi)))
                  go_loopg [6] kj36 (fun kq v6 w' => ∃ (x6_3 : Int) (x1001_3 : Int) (x433002_3 : ByteArray), v6 = .int .i64 x6_3 ∧ Aside0 (spec_l20Value.l0 kq a1 x6_3 s0_0 x1001_3 2 0 x433002_3 = some (r1, r2, r3, r4)) ∧ Aside0 (kq ≤ kj36) ∧ Aside0 (w'.heap[gb431]? = some (.cells #[.int .i64 0, .int .i64 0, .string (⟨#[]⟩ : ByteArray)] 28 (0, 0))) ∧ Aside0 (w'.heap[gb432]? = some (.cells #[.int .i64 2, .int .i64 0, .string x433002_3] 28 (0, 0))) ∧ Aside0 (IsS140 w0 w' g s0_0 x1001_3) ∧ Aside0 (KeepBut w w' g none) ∧ Aside0 (Below w0.heap.size w0 w'))
                  case atStart => exact ⟨(t445), (t446), ((⟨#[]⟩ : ByteArray)), (by first | rfl | (simp; done) | (simp [*]; done)), H', ⟨Nat.le_refl _⟩, ⟨by (with_reducible repeat (first | refine blk_drewN ?_ _ | refine blk_drew ?_ | refine blk_alloc ?_ _)); exact BK431.out⟩, ⟨by (with_reducible repeat (first | refine blk_drewN ?_ _ | refine blk_drew ?_ | refine blk_alloc ?_ _)); exact BK432.out⟩, ⟨by repeat (first | (with_reducible first | exact HI0.out | apply IsS140.alloc | apply IsS140.drewN | apply IsS140.drew | apply IsS140.set_1 | refine IsS140.far ?_ NB0_431.out _ | refine IsS140.far ?_ NB0_432.out _) | exact HI0.out)⟩, ⟨by repeat (first | (with_reducible first | exact HK.out | apply KeepBut.set_ | apply keep_drewN | apply keep_drew | apply keep_alloc | refine keep_far ?_ GW431.out _ | refine keep_far ?_ GW432.out _) | exact HK.out)⟩, ⟨by repeat (first | (with_reducible first | exact HB.out | apply below_alloc | apply pw_below_drewN | apply below_drew1 | refine below_set ?_ (IsS140.ge HI0.out) | refine below_set ?_ GE431.out | refine below_set ?_ GE432.out) | exact HB.out)⟩⟩
                  case round =>
                    clear H'
                    try clear c1
                    try clear c2
                    try clear p2
                    try clear c3
                    try clear c4
                    try clear p4
                    try clear q4
                    try clear hx4
                    try clear c6
                    try clear p6
                    try clear c7
                    try clear c8
                    try clear c11
                    try clear c11b0
                    try clear c11b1
                    try clear c13
                    try clear c13b0
                    try clear c13b1
                    try clear c14
                    try clear c14b0
                    try clear c14b1
                    try clear c15
                    try clear c18
                    try clear c18b0
                    try clear c18b1
                    try clear c20
                    try clear c20b0
                    try clear c21
                    try clear c21b0
                    try clear c23
                    try clear c24
                    try clear c33
                    try clear c34
                    try clear c38
                    try clear c38b0
                    try clear c38b1
                    try clear c39
                    try clear c41
                    try clear c42
                    try clear p44
                    try clear q44
                    try clear hx44
                    try clear hcz25_0
                    try clear hcz25_1
                    try clear hcz25_2
                    try clear hcz31_0
                    try clear hcz31_1
                    try clear hcz31_2
                    try clear hcz35_0
                    try clear hcz35_1
                    try clear hcz35_2
                    try clear hcz43_0
                    try clear hcz43_1
                    try clear hcz43_2
                    try clear hcz9_0
                    try clear hcz9_1
                    try clear hcz9_2
                    try clear hfz25_0
                    try clear hfz25_1
                    try clear hfz25_2
                    try clear hfz31_0
                    try clear hfz31_1
                    try clear hfz31_2
                    try clear hfz35_0
                    try clear hfz35_1
                    try clear hfz35_2
                    try clear hfz43_0
                    try clear hfz43_1
                    try clear hfz43_2
                    try clear hfz9_0
                    try clear hfz9_1
                    try clear hfz9_2
                    try clear hx444_0
                    try clear p2
                    try clear p4
                    try clear p444
                    try clear p6
                    try clear q4
                    try clear q444
                    obtain ⟨x6_3, x1001_3, x433002_3, rfl, HA, HK3, BK431, BK432, HI0, HK, HB⟩ := hrel
                    cases gk with
                    | zero => exact absurd HA.out (by simp [spec_l20Value.l0])
                    | succ k3 =>
                      have H := HA.out
                      clear HA
                      simp only [spec_l20Value.l0] at H
                      by_cases c45 : x6_3 > 0
                      · rw [if_pos c45] at H
                        have c45b0 : decide (0 < x6_3) = true := decide_eq_true c45
                        clear c45
                        replace H := Option.bind_eq_some_iff.mp H
                        obtain ⟨⟨t447, t448⟩, A460, H⟩ := H
                        replace H : ((some (([(wrap64 (97 + t447)) % 256] : List Int) : List Int)).bind fun y449 => (if x433002_3.size + (strOfNums y449).size ≤ 9223372036854775807 then (spec_l20Value.l0 k3 a1 (wrap64 (x6_3 - 1)) s0_0 t448 2 0 (x433002_3 ++ (strOfNums y449))) else (none))) = some (r1, r2, r3, r4) := H
                        have A46 := Aside0.mk A460
                        clear A460
                        obtain ⟨y449, hy449⟩ : ∃ y_ : List Int, y_ = (([(wrap64 (97 + t447)) % 256] : List Int)) := ⟨_, rfl⟩
                        replace H : (if x433002_3.size + (strOfNums y449).size ≤ 9223372036854775807 then (spec_l20Value.l0 k3 a1 (wrap64 (x6_3 - 1)) s0_0 t448 2 0 (x433002_3 ++ (strOfNums y449))) else (none)) = some (r1, r2, r3, r4) := by first | (rw [hy449]; with_reducible exact H) | (have H2_ := (Option.bind_some _ _).symm.trans H; rw [hy449]; with_reducible exact H2_) | (have H2_ := (Option.bind_some _ _).symm.trans H; with_reducible exact H2_) | with_reducible exact H | (rw [hy449]; exact H) | exact H
                        have Ny449 := Aside0.mk hy449
                        clear hy449
                        by_cases c47 : x433002_3.size + (strOfNums y449).size ≤ 9223372036854775807
                        · rw [if_pos c47] at H
                          have c47b0 := eq_true c47
                          have c47b1 : decide (x433002_3.size + (strOfNums y449).size ≤ 9223372036854775807) = true := decide_eq_true c47
                          try have c47b2 : (9223372036854775807 < x433002_3.size + (strOfNums y449).size) = False := eq_false (Nat.not_lt.2 c47)
                          have H' := Aside0.mk H
                          clear H
                          try go_wp2
                          have n0_ := Aside0.mk (blk_drew BK431.out)
                          have n1_ := Aside0.mk (blk_drew BK432.out)
                          have n2_ := Aside0.mk (IsS140.drew HI0.out)
                          have n3_ := Aside0.mk (keep_drew HK.out)
                          have n4_ := Aside0.mk (below_drew1 HB.out)
                          clear BK431
                          clear BK432
                          clear HI0
                          clear HK
                          clear HB
                          have BK431 := n0_
                          have BK432 := n1_
                          have HI0 := n2_
                          have HK := n3_
                          have HB := n4_
                          clear n0_ n1_ n2_ n3_ n4_
                          refine start_ (n := 11) (S := fun w' => w'.cell? ⟨gb432, 0, none⟩ = some (.int .i64 2) ∧ w'.cell? ⟨gb432, 1, none⟩ = some (.int .i64 0) ∧ w'.cell? ⟨gb432, 2, none⟩ = some (.string x433002_3)) (ds := [10]) #[false, false, false, false, false, false, false, false, false, false, false] (by kernel_rfl) rfl rfl ⟨(blk_cell BK432.out 0).trans rfl, (blk_cell BK432.out 1).trans rfl, (blk_cell BK432.out 2).trans rfl⟩ (fun hHeld => ?_); refine with_tabW spec_l20Value.tab17 spec_l20Value.bits17 (fun HT_ HW_ => ?_)
                          generalize wr.drew = w48 at BK431 BK432 HI0 HK HB hHeld ⊢
                          refine pure_ (i := 0) (N := some 42) (v := ?_) (a' := ?_) #[true, false, false, false, false, false, false, false, false, false, false] rfl rfl (any_of HT_.out (by kernel_rfl)) (fun _ _ _ h => h) (Or.inl ⟨by rfl, ?_⟩) ?_ ?_
                          rotate_left
                          · intro w'
                            go_simp
                            with_reducible rfl
                          rotate_left
                          · simp only [Act.put, List.setIfInBounds_toArray, List.set_cons_zero, List.set_cons_succ, i64_w, i32_w]
                            rfl
                          refine pure_ (i := 2) (N := some 44) (v := ?_) (a' := ?_) #[true, false, true, false, false, false, false, false, false, false, false] rfl rfl (any_of HT_.out (by kernel_rfl)) (fun _ _ _ h => h) (Or.inl ⟨by rfl, ?_⟩) ?_ ?_
                          rotate_left
                          · intro w'
                            go_simp
                            with_reducible rfl
                          rotate_left
                          · simp only [Act.put, List.setIfInBounds_toArray, List.set_cons_zero, List.set_cons_succ, i64_w, i32_w]
                            rfl
                          refine take_ (i := 1) (N := some 43) (v := ?_) (a' := ?_) #[true, true, true, false, false, false, false, false, false, false, false] rfl rfl (take_ofW HT_.out HW_.out (by kernel_rfl)) (fun _ _ _ h => h) (Or.inl ⟨by rfl, ?_⟩) hHeld ?_ ?_
                          rotate_left
                          · rintro w' ⟨s0, s1, s2⟩
                            go_simp
                            with_reducible rfl
                          rotate_left
                          · simp only [Act.put, List.setIfInBounds_toArray, List.set_cons_zero, List.set_cons_succ, i64_w, i32_w]
                            rfl
                          refine one_ (i := 3) (N := some 45) #[true, true, true, true, false, false, false, false, false, false, false] rfl rfl (one_of HT_.out (by kernel_rfl)) (by decide) (fun K hK => ?_)
                          refine goes_ Try.func110 (by kernel_rfl) rfl #[.pointer (some ⟨g, 0, none⟩), .int .i64 3] (by rfl) rfl rfl (by (try simp only [List.map_toArray, List.map_cons, List.map_nil]); first | done | rfl | (simp only [List.length_drop, List.length_take]; rfl)) ?_
                          with_reducible refine (spec_l20Rd_pick.calls k3 g s0_0 x1001_3 3 t447 t448 w0 _ ?side1 ?side2 A46.out).mono ?_
                          (case side1 => repeat (first | (with_reducible first | exact HI0.out | apply IsS140.alloc | apply IsS140.drewN | apply IsS140.drew | apply IsS140.set_1 | refine IsS140.far ?_ NB0_431.out _ | refine IsS140.far ?_ NB0_432.out _) | exact HI0.out))
                          (case side2 => repeat (first | (with_reducible first | exact HB.out | apply below_alloc | apply pw_below_drewN | apply below_drew1 | refine below_set ?_ (IsS140.ge HI0.out) | refine below_set ?_ GE431.out | refine below_set ?_ GE432.out) | exact HB.out))
                          rintro e w49 ⟨rfl, hi, hb, hk⟩
                          refine ⟨_, rfl, ?_⟩
                          have n0_ := Aside0.mk (KeepBut.blk hk (g' := gb431) (o := .cells #[.int .i64 0, .int .i64 0, .string (⟨#[]⟩ : ByteArray)] 28 (0, 0)) (by (with_reducible repeat (first | refine blk_drewN ?_ _ | refine blk_drew ?_ | refine blk_alloc ?_ _)); exact BK431.out) NB431_0.out (by simp))
                          have n1_ := Aside0.mk (KeepBut.blk hk (g' := gb432) (o := .cells #[.int .i64 2, .int .i64 0, .string x433002_3] 28 (0, 0)) (by (with_reducible repeat (first | refine blk_drewN ?_ _ | refine blk_drew ?_ | refine blk_alloc ?_ _)); exact BK432.out) NB432_0.out (by simp))
                          have n2_ := Aside0.mk (KeepBut.trans (by repeat (first | (with_reducible first | exact HK.out | apply KeepBut.set_ | apply keep_drewN | apply keep_drew | apply keep_alloc | refine keep_far ?_ GW431.out _ | refine keep_far ?_ GW432.out _) | exact HK.out)) hk (.inl rfl))
                          have n3_ := Aside0.mk (hb)
                          have n4_ := Aside0.mk (hi)
                          clear BK431
                          clear BK432
                          clear HK
                          clear HB
                          clear HI0
                          have BK431 := n0_
                          have BK432 := n1_
                          have HK := n2_
                          have HB := n3_
                          have HI0 := n4_
                          clear n0_ n1_ n2_ n3_ n4_
                          (try clear hb)
                          (try clear hb2)
                          (try clear hk)
                          (try clear hi)
                          refine hK.out _ _ ⟨(blk_cell BK432.out 0).trans rfl, (blk_cell BK432.out 1).trans rfl, (blk_cell BK432.out 2).trans rfl⟩ (fun hHeld => ?_)
                          clear hK K
                          refine norm_ (a' := ?_) ?_ ?_
                          rotate_left
                          · show Act.put _ (some 45) _ = _
                            simp only [Act.put, List.setIfInBounds_toArray, List.set_cons_zero, List.set_cons_succ, i64_w, i32_w]
                            rfl
                          refine pure_ (i := 4) (N := some 46) (v := ?_) (a' := ?_) #[true, true, true, true, true, false, false, false, false, false, false] rfl rfl (any_of HT_.out (by kernel_rfl)) (fun _ _ _ h => h) (Or.inl ⟨by rfl, ?_⟩) ?_ ?_
                          rotate_left
                          · intro w'
                            go_simp
                            with_reducible rfl
                          rotate_left
                          · simp only [Act.put, List.setIfInBounds_toArray, List.set_cons_zero, List.set_cons_succ, i64_w, i32_w]
                            rfl
                          refine pure_ (i := 5) (N := some 47) (v := ?_) (a' := ?_) #[true, true, true, true, true, true, false, false, false, false, false] rfl rfl (any_of HT_.out (by kernel_rfl)) (fun _ _ _ h => h) (Or.inl ⟨by rfl, ?_⟩) ?_ ?_
                          rotate_left
                          · intro w'
                            go_simp
                            with_reducible rfl
                          rotate_left
                          · simp only [Act.put, List.setIfInBounds_toArray, List.set_cons_zero, List.set_cons_succ, i64_w, i32_w]
                            rfl
                          refine one_ (i := 6) (N := some 48) #[true, true, true, true, true, true, true, false, false, false, false] rfl rfl (one_of HT_.out (by kernel_rfl)) (by decide) (fun K hK => ?_)
                          refine Kd.R_lit_step (Kd.int .u8) _ 5 ?hg (N := 48) ?hd (xs := ([(wrap64 (97 + t447)) % 256] : List Int)) (inner := [.int .u8 ((wrap64 (97 + t447)) % 256)]) (ok := fun _ => True) (okp := fun _ => True) ?hr ?hp (fun _ hk => hk) trivial (Below.refl _ _) (Nat.le_refl _) (by simp) ?_; (case hd => rfl); (case hg => rfl); (case hr => first | (go_simp; done) | (go_simp; rfl)); (case hp => exact (Reps.one (show Kd.M (Kd.int .u8) _ _ _ ((wrap64 (97 + t447)) % 256) [.int .u8 ((wrap64 (97 + t447)) % 256)] from rfl) (Reps.none _ _)))
                          intro v450 w50 ho51 hb hg_ hnew_
                          clear hg_ hnew_
                          (first | rw [← Ny449.out] at ho51 | (simp only [Int.reduceToNat] at ho51; rw [← Ny449.out] at ho51))
                          have n0_ := Aside0.mk (Kd.R_lower ho51 (keep_size (w := w) (g := g) (row := none) (by repeat (first | (with_reducible first | exact HK.out | apply KeepBut.set_ | apply keep_drewN | apply keep_drew | apply keep_alloc | refine keep_far ?_ GW431.out _ | refine keep_far ?_ GW432.out _) | exact HK.out))))
                          have n1_ := Aside0.mk (blk_below (g := gb431) (o := .cells #[.int .i64 0, .int .i64 0, .string (⟨#[]⟩ : ByteArray)] 28 (0, 0)) (by (with_reducible repeat (first | refine blk_drewN ?_ _ | refine blk_drew ?_ | refine blk_alloc ?_ _)); exact BK431.out) hb)
                          have n2_ := Aside0.mk (blk_below (g := gb432) (o := .cells #[.int .i64 2, .int .i64 0, .string x433002_3] 28 (0, 0)) (by (with_reducible repeat (first | refine blk_drewN ?_ _ | refine blk_drew ?_ | refine blk_alloc ?_ _)); exact BK432.out) hb)
                          have n3_ := Aside0.mk (IsS140.below (by repeat (first | (with_reducible first | exact HI0.out | apply IsS140.alloc | apply IsS140.drewN | apply IsS140.drew | apply IsS140.set_1 | refine IsS140.far ?_ NB0_431.out _ | refine IsS140.far ?_ NB0_432.out _) | exact HI0.out)) hb)
                          have n4_ := Aside0.mk (KeepBut.trans (by repeat (first | (with_reducible first | exact HK.out | apply KeepBut.set_ | apply keep_drewN | apply keep_drew | apply keep_alloc | refine keep_far ?_ GW431.out _ | refine keep_far ?_ GW432.out _) | exact HK.out)) (KeepBut.of_below hb g none) (.inl rfl))
                          have n5_ := Aside0.mk (below_step (by repeat (first | (with_reducible first | exact HB.out | apply below_alloc | apply pw_below_drewN | apply below_drew1 | refine below_set ?_ (IsS140.ge HI0.out) | refine below_set ?_ GE431.out | refine below_set ?_ GE432.out) | exact HB.out)) hb)
                          clear BK431
                          clear BK432
                          clear HI0
                          clear HK
                          clear HB
                          have HO451 := n0_
                          have BK431 := n1_
                          have BK432 := n2_
                          have HI0 := n3_
                          have HK := n4_
                          have HB := n5_
                          clear n0_ n1_ n2_ n3_ n4_ n5_
                          clear hb ho51
                          refine hK.out _ _ ⟨(blk_cell BK432.out 0).trans rfl, (blk_cell BK432.out 1).trans rfl, (blk_cell BK432.out 2).trans rfl⟩ (fun hHeld => ?_)
                          clear hK K
                          refine norm_ (a' := ?_) ?_ ?_
                          rotate_left
                          · show Act.put _ (some 48) _ = _
                            simp only [Act.put, List.setIfInBounds_toArray, List.set_cons_zero, List.set_cons_succ, i64_w, i32_w]
                            rfl
                          refine one_ (i := 7) (N := some 49) #[true, true, true, true, true, true, true, true, false, false, false] rfl rfl (one_of HT_.out (by kernel_rfl)) (by decide) (fun K hK => ?_)
                          have hcv52 := own_string (P := Try.prog) Try.underlying33 Try.underlying5 Try.underlying9 (Kd.own_of_R HO451.out)
                          refine value_ (w1 := ?_) (v := ?_) (by rfl) rfl ?_ ?_
                          rotate_left 2
                          · go_simp
                            constructor
                            · rfl
                            · rfl
                          clear hcv52
                          refine hK.out _ _ ⟨(blk_cell BK432.out 0).trans rfl, (blk_cell BK432.out 1).trans rfl, (blk_cell BK432.out 2).trans rfl⟩ (fun hHeld => ?_)
                          clear hK K
                          refine norm_ (a' := ?_) ?_ ?_
                          rotate_left
                          · show Act.put _ (some 49) _ = _
                            simp only [Act.put, List.setIfInBounds_toArray, List.set_cons_zero, List.set_cons_succ, i64_w, i32_w]
                            rfl
                          refine pure_ (i := 8) (N := some 50) (v := ?_) (a' := ?_) #[true, true, true, true, true, true, true, true, true, false, false] rfl rfl (any_of HT_.out (by kernel_rfl)) (fun _ _ _ h => h) (Or.inl ⟨by rfl, ?_⟩) ?_ ?_
                          rotate_left
                          · intro w'
                            go_simp
                            with_reducible rfl
                          rotate_left
                          · simp only [Act.put, List.setIfInBounds_toArray, List.set_cons_zero, List.set_cons_succ, i64_w, i32_w]
                            rfl
                          refine pure_ (i := 9) (N := some 51) (v := ?_) (a' := ?_) #[true, true, true, true, true, true, true, true, true, true, false] rfl rfl (any_of HT_.out (by kernel_rfl)) (fun _ _ _ h => h) (Or.inl ⟨by rfl, ?_⟩) ?_ ?_
                          rotate_left
                          · intro w'
                            go_simp
                            with_reducible rfl
                          rotate_left
                          · simp only [Act.put, List.setIfInBounds_toArray, List.set_cons_zero, List.set_cons_succ, i64_w, i32_w]
                            rfl
                          refine last_ (i := 10) (N := none) #[true, true, true, true, true, true, true, true, true, true, true] rfl rfl (one_of HT_.out (by kernel_rfl)) (by decide) (fun K hK => ?_)
                          have hs53 : w50.cell? ⟨gb432, 2, none⟩ = some (.string x433002_3) := (blk_cell BK432.out 2).trans rfl
                          have hfs53 := blk_frozen BK432.out 2
                          have hns53_0 := NB431_432.out
                          have hms53_0 := NB432_431.out
                          refine skip_ (w1 := ?_) (by rfl) rfl ?_ ?_
                          rotate_left
                          · go_simp
                            rfl
                          refine hK.out _ _ ?_
                          clear hK K
                          refine done_ (done_of HT_.out (by kernel_rfl)) ?_
                          try go_wp2
                          go_roundg k3
                          case measure => have := HJ11.out; have := HJ36.out; have := HK3.out; omega
                          case rel => exact ⟨(wrap64 (x6_3 - 1)), (t448), (x433002_3 ++ (strOfNums y449)), (by first | rfl | (simp; done) | (simp [*]; done)), H', ⟨by have := HJ11.out; have := HJ36.out; have := HK3.out; omega⟩, ⟨by (with_reducible repeat (first | refine blk_drewN ?_ _ | refine blk_drew ?_ | refine blk_alloc ?_ _)); refine blk_far ?_ NB431_432.out _; (with_reducible repeat (first | refine blk_drewN ?_ _ | refine blk_drew ?_ | refine blk_alloc ?_ _)); exact BK431.out⟩, ⟨by (with_reducible repeat (first | refine blk_drewN ?_ _ | refine blk_drew ?_ | refine blk_alloc ?_ _)); refine blk_put (cs := #[.int .i64 2, .int .i64 0, .string x433002_3]) ?_ 2 _ rfl; (with_reducible repeat (first | refine blk_drewN ?_ _ | refine blk_drew ?_ | refine blk_alloc ?_ _)); exact BK432.out⟩, ⟨by repeat (first | (with_reducible first | exact HI0.out | apply IsS140.alloc | apply IsS140.drewN | apply IsS140.drew | apply IsS140.set_1 | refine IsS140.far ?_ NB0_431.out _ | refine IsS140.far ?_ NB0_432.out _) | exact HI0.out)⟩, ⟨by repeat (first | (with_reducible first | exact HK.out | apply KeepBut.set_ | apply keep_drewN | apply keep_drew | apply keep_alloc | refine keep_far ?_ GW431.out _ | refine keep_far ?_ GW432.out _) | exact HK.out)⟩, ⟨by repeat (first | (with_reducible first | exact HB.out | apply below_alloc | apply pw_below_drewN | apply below_drew1 | refine below_set ?_ (IsS140.ge HI0.out) | refine below_set ?_ GE431.out | refine below_set ?_ GE432.out) | exact HB.out)⟩⟩
                        · rw [if_neg c47] at H
                          exact absurd H (by simp)
                      · rw [if_neg c45] at H
                        have c45b0 : decide (0 < x6_3) = false := decide_eq_false c45
                        clear c45
                        have H' := Aside0.mk H
                        clear H
                        go_wp2
                        go_meet
                        case rel => exact ⟨_, (x1001_3), (2), (0), (x433002_3), H', ⟨by have := HJ11.out; have := HJ36.out; have := HK3.out; first | omega | exact Nat.le_refl _⟩, ⟨by (with_reducible repeat (first | refine blk_drewN ?_ _ | refine blk_drew ?_ | refine blk_alloc ?_ _)); exact BK431.out⟩, ⟨by (with_reducible repeat (first | refine blk_drewN ?_ _ | refine blk_drew ?_ | refine blk_alloc ?_ _)); exact BK432.out⟩, ⟨by repeat (first | (with_reducible first | exact HI0.out | apply IsS140.alloc | apply IsS140.drewN | apply IsS140.drew | apply IsS140.set_1 | refine IsS140.far ?_ NB0_431.out _ | refine IsS140.far ?_ NB0_432.out _) | exact HI0.out)⟩, ⟨by repeat (first | (with_reducible first | exact HK.out | apply KeepBut.set_ | apply keep_drewN | apply keep_drew | apply keep_alloc | refine keep_far ?_ GW431.out _ | refine keep_far ?_ GW432.out _) | exact HK.out)⟩, ⟨by repeat (first | (with_reducible first | exact HB.out | apply below_alloc | apply pw_below_drewN | apply below_drew1 | refine below_set ?_ (IsS140.ge HI0.out) | refine below_set ?_ GE431.out | refine below_set ?_ GE432.out) | exact HB.out)⟩⟩
                · replace c39 := Bool.eq_false_iff.mpr c39
                  subst c39
                  have H1 : ((spec_l20Rd_pick.f kj36 s0_0 t434 2).bind fun bt452 => (spec_l20Value.j3 kj36 a1 s0_0 bt452.2 3 bt452.1 (⟨#[]⟩ : ByteArray))) = some (r1, r2, r3, r4) := by rw [if_neg (show ¬ (false = true) by decide)] at H; exact H
                  clear H
                  have H := H1
                  clear H1
                  replace H := Option.bind_eq_some_iff.mp H
                  obtain ⟨⟨t452, t453⟩, A540, H⟩ := H
                  replace H : (spec_l20Value.j3 kj36 a1 s0_0 t453 3 t452 (⟨#[]⟩ : ByteArray)) = some (r1, r2, r3, r4) := H
                  have A54 := Aside0.mk A540
                  clear A540
                  have H' := Aside0.mk H
                  clear H
                  go_wp2_with (first | ((with_reducible refine gate_callee (f := 110) rfl ?_); refine goesL_ (some 11) rfl rfl Try.func110 (by kernel_rfl) rfl #[.pointer (some ⟨g, 0, none⟩), .int .i64 2] rfl (by (try simp only [List.map_toArray, List.map_cons, List.map_nil]); first | done | rfl | (simp only [List.length_drop, List.length_take]; rfl)) ?_; (with_reducible refine (spec_l20Rd_pick.calls kj36 g s0_0 t434 2 t452 t453 w0 _ ?side1 ?side2 A54.out).mono ?_); (case side1 => repeat (first | (with_reducible first | exact HI0.out | apply IsS140.alloc | apply IsS140.drewN | apply IsS140.drew | apply IsS140.set_1 | refine IsS140.far ?_ NB0_431.out _ | refine IsS140.far ?_ NB0_432.out _) | exact HI0.out)); (case side2 => repeat (first | (with_reducible first | exact HB.out | apply below_alloc | apply pw_below_drewN | apply below_drew1 | refine below_set ?_ (IsS140.ge HI0.out) | refine below_set ?_ GE431.out | refine below_set ?_ GE432.out) | exact HB.out)); rintro e w55 ⟨rfl, hi, hb, hk⟩; refine ⟨_, rfl, ?_⟩; have n0_ := Aside0.mk (KeepBut.blk hk (g' := gb431) (o := .cells #[.int .i64 0, .int .i64 0, .string (⟨#[]⟩ : ByteArray)] 28 (0, 0)) (by (with_reducible repeat (first | refine blk_drewN ?_ _ | refine blk_drew ?_ | refine blk_alloc ?_ _)); exact BK431.out) NB431_0.out (by simp)); have n1_ := Aside0.mk (KeepBut.blk hk (g' := gb432) (o := .cells #[.int .i64 0, .int .i64 0, .string (⟨#[]⟩ : ByteArray)] 28 (0, 0)) (by (with_reducible repeat (first | refine blk_drewN ?_ _ | refine blk_drew ?_ | refine blk_alloc ?_ _)); exact BK432.out) NB432_0.out (by simp)); have n2_ := Aside0.mk (KeepBut.trans (by repeat (first | (with_reducible first | exact HK.out | apply KeepBut.set_ | apply keep_drewN | apply keep_drew | apply keep_alloc | refine keep_far ?_ GW431.out _ | refine keep_far ?_ GW432.out _) | exact HK.out)) hk (.inl rfl)); have n3_ := Aside0.mk (hb); have n4_ := Aside0.mk (hi); clear BK431; clear BK432; clear HK; clear HB; clear HI0; have BK431 := n0_; have BK432 := n1_; have HK := n2_; have HB := n3_; have HI0 := n4_; clear n0_ n1_ n2_ n3_ n4_; (try clear hb); (try clear hb2); (try clear hk); (try clear hi); have hnb56 := NB432_431.out; have hnc56 := NB431_432.out; have hnb57 := NB432_0.out; have hnc57 := NB0_432.out; have hcz58_0 : w55.cell? ⟨gb432, 0, none⟩ = some (.int .i64 0) := (blk_cell BK432.out 0).trans rfl; have hcz58_1 : w55.cell? ⟨gb432, 1, none⟩ = some (.int .i64 0) := (blk_cell BK432.out 1).trans rfl; have hcz58_2 : w55.cell? ⟨gb432, 2, none⟩ = some (.string (⟨#[]⟩ : ByteArray)) := (blk_cell BK432.out 2).trans rfl; have hfz58_0 := blk_frozen BK432.out 0; have hfz58_1 := blk_frozen BK432.out 1; have hfz58_2 := blk_frozen BK432.out 2))
                  go_meet
                  case rel => exact ⟨_, (t453), (3), (t452), ((⟨#[]⟩ : ByteArray)), H', ⟨by have := HJ11.out; have := HJ36.out; first | omega | exact Nat.le_refl _⟩, ⟨by (with_reducible repeat (first | refine blk_drewN ?_ _ | refine blk_drew ?_ | refine blk_alloc ?_ _)); refine blk_far ?_ NB431_432.out _; (with_reducible repeat (first | refine blk_drewN ?_ _ | refine blk_drew ?_ | refine blk_alloc ?_ _)); refine blk_far ?_ NB431_432.out _; (with_reducible repeat (first | refine blk_drewN ?_ _ | refine blk_drew ?_ | refine blk_alloc ?_ _)); refine blk_far ?_ NB431_432.out _; (with_reducible repeat (first | refine blk_drewN ?_ _ | refine blk_drew ?_ | refine blk_alloc ?_ _)); exact BK431.out⟩, ⟨by (with_reducible repeat (first | refine blk_drewN ?_ _ | refine blk_drew ?_ | refine blk_alloc ?_ _)); refine blk_put (cs := #[.int .i64 3, .int .i64 t452, .string (⟨#[]⟩ : ByteArray)]) ?_ 2 _ rfl; (with_reducible repeat (first | refine blk_drewN ?_ _ | refine blk_drew ?_ | refine blk_alloc ?_ _)); refine blk_put (cs := #[.int .i64 3, .int .i64 0, .string (⟨#[]⟩ : ByteArray)]) ?_ 1 _ rfl; (with_reducible repeat (first | refine blk_drewN ?_ _ | refine blk_drew ?_ | refine blk_alloc ?_ _)); refine blk_put (cs := #[.int .i64 0, .int .i64 0, .string (⟨#[]⟩ : ByteArray)]) ?_ 0 _ rfl; (with_reducible repeat (first | refine blk_drewN ?_ _ | refine blk_drew ?_ | refine blk_alloc ?_ _)); exact BK432.out⟩, ⟨by repeat (first | (with_reducible first | exact HI0.out | apply IsS140.alloc | apply IsS140.drewN | apply IsS140.drew | apply IsS140.set_1 | refine IsS140.far ?_ NB0_431.out _ | refine IsS140.far ?_ NB0_432.out _) | exact HI0.out)⟩, ⟨by repeat (first | (with_reducible first | exact HK.out | apply KeepBut.set_ | apply keep_drewN | apply keep_drew | apply keep_alloc | refine keep_far ?_ GW431.out _ | refine keep_far ?_ GW432.out _) | exact HK.out)⟩, ⟨by repeat (first | (with_reducible first | exact HB.out | apply below_alloc | apply pw_below_drewN | apply below_drew1 | refine below_set ?_ (IsS140.ge HI0.out) | refine below_set ?_ GE431.out | refine below_set ?_ GE432.out) | exact HB.out)⟩⟩
  case rest =>
    clear HC4
    try clear c1
    try clear c2
    try clear p2
    try clear c3
    try clear c4
    try clear p4
    try clear q4
    try clear hx4
    try clear c5
    try clear hcv5
    try clear c6
    try clear p6
    try clear c7
    try clear c8
    try clear c11
    try clear c11b0
    try clear c11b1
    try clear c13
    try clear c13b0
    try clear c13b1
    try clear c14
    try clear c14b0
    try clear c14b1
    try clear c15
    try clear c18
    try clear c18b0
    try clear c18b1
    try clear c20
    try clear c20b0
    try clear c21
    try clear c21b0
    try clear c23
    try clear c24
    try clear c33
    try clear c34
    try clear c38
    try clear c38b0
    try clear c38b1
    try clear c39
    try clear c41
    try clear c42
    try clear p44
    try clear q44
    try clear hx44
    try clear c45
    try clear c45b0
    try clear c47
    try clear c47b0
    try clear c47b1
    try clear c47b2
    try clear hcv52
    try clear c56
    try clear c57
    try clear hcz25_0
    try clear hcz25_1
    try clear hcz25_2
    try clear hcz31_0
    try clear hcz31_1
    try clear hcz31_2
    try clear hcz35_0
    try clear hcz35_1
    try clear hcz35_2
    try clear hcz43_0
    try clear hcz43_1
    try clear hcz43_2
    try clear hcz58_0
    try clear hcz58_1
    try clear hcz58_2
    try clear hcz9_0
    try clear hcz9_1
    try clear hcz9_2
    try clear hfz25_0
    try clear hfz25_1
    try clear hfz25_2
    try clear hfz31_0
    try clear hfz31_1
    try clear hfz31_2
    try clear hfz35_0
    try clear hfz35_1
    try clear hfz35_2
    try clear hfz43_0
    try clear hfz43_1
    try clear hfz43_2
    try clear hfz58_0
    try clear hfz58_1
    try clear hfz58_2
    try clear hfz9_0
    try clear hfz9_1
    try clear hfz9_2
    try clear hx444_0
    try clear p2
    try clear p4
    try clear p44
    try clear p444
    try clear p6
    try clear q4
    try clear q44
    try clear q444
    obtain ⟨kq, x1001_3, x433000_3, x433001_3, x433002_3, HA, HJ3, BK431, BK432, HI0, HK, HB⟩ := hcut
    cases kq with
    | zero => exact absurd HA.out (by simp [spec_l20Value.j3])
    | succ kj3 =>
      have H := HA.out
      clear HA
      simp only [spec_l20Value.j3] at H
      replace H := Option.bind_eq_some_iff.mp H
      obtain ⟨⟨t454, t455⟩, A590, H⟩ := H
      replace H : (if t454 = true then ((spec_l20Rd_pick.f kj3 s0_0 t455 4).bind fun bt456 => (if bt456.1 = 0 then (some (x433000_3, 10000, x433002_3, bt456.2)) else (if bt456.1 = 1 then (if x433002_3.size + 7 ≤ 9223372036854775807 then (some (x433000_3, x433001_3, x433002_3 ++ (⟨#[97, 98, 99, 100, 101, 102, 103]⟩ : ByteArray), bt456.2)) else (none)) else (if bt456.1 = 2 then ((spec_l20Rd_pick.f kj3 s0_0 bt456.2 7).bind fun bt458 => (some (wrap64 (bt458.1 - 1), x433001_3, x433002_3, bt458.2))) else (if x433002_3.size + 1 ≤ 9223372036854775807 then (some (x433000_3, x433001_3, x433002_3 ++ (⟨#[65]⟩ : ByteArray), bt456.2)) else (none)))))) else (some (x433000_3, x433001_3, x433002_3, t455))) = some (r1, r2, r3, r4) := H
      have A59 := Aside0.mk A590
      clear A590
      by_cases c60 : t454 = true
      · subst c60
        have H1 : ((spec_l20Rd_pick.f kj3 s0_0 t455 4).bind fun bt456 => (if bt456.1 = 0 then (some (x433000_3, 10000, x433002_3, bt456.2)) else (if bt456.1 = 1 then (if x433002_3.size + 7 ≤ 9223372036854775807 then (some (x433000_3, x433001_3, x433002_3 ++ (⟨#[97, 98, 99, 100, 101, 102, 103]⟩ : ByteArray), bt456.2)) else (none)) else (if bt456.1 = 2 then ((spec_l20Rd_pick.f kj3 s0_0 bt456.2 7).bind fun bt458 => (some (wrap64 (bt458.1 - 1), x433001_3, x433002_3, bt458.2))) else (if x433002_3.size + 1 ≤ 9223372036854775807 then (some (x433000_3, x433001_3, x433002_3 ++ (⟨#[65]⟩ : ByteArray), bt456.2)) else (none)))))) = some (r1, r2, r3, r4) := by rw [if_pos rfl] at H; exact H
        clear H
        have H := H1
        clear H1
        replace H := Option.bind_eq_some_iff.mp H
        obtain ⟨⟨t456, t457⟩, A610, H⟩ := H
        replace H : (if t456 = 0 then (some (x433000_3, 10000, x433002_3, t457)) else (if t456 = 1 then (if x433002_3.size + 7 ≤ 9223372036854775807 then (some (x433000_3, x433001_3, x433002_3 ++ (⟨#[97, 98, 99, 100, 101, 102, 103]⟩ : ByteArray), t457)) else (none)) else (if t456 = 2 then ((spec_l20Rd_pick.f kj3 s0_0 t457 7).bind fun bt458 => (some (wrap64 (bt458.1 - 1), x433001_3, x433002_3, bt458.2))) else (if x433002_3.size + 1 ≤ 9223372036854775807 then (some (x433000_3, x433001_3, x433002_3 ++ (⟨#[65]⟩ : ByteArray), t457)) else (none))))) = some (r1, r2, r3, r4) := H
        have A61 := Aside0.mk A610
        clear A610
        by_cases c62 : t456 = 0
        · rw [if_pos c62] at H
          have c62b0 : (t456 == 0) = true := beq_iff_eq.mpr c62
          have c62b1 : (t456 != 0) = false := bne_eq_false_iff_eq.mpr c62
          clear c62
          simp only [Option.some.injEq, Prod.mk.injEq] at H
          obtain ⟨rfl, rfl, rfl, rfl⟩ := H
          go_wp2_with (first | ((with_reducible refine gate_callee (f := 111) rfl ?_); refine goesL_ (some 54) rfl rfl Try.func111 (by kernel_rfl) rfl #[.pointer (some ⟨g, 0, none⟩), .int .i64 a1] rfl (by (try simp only [List.map_toArray, List.map_cons, List.map_nil]); first | done | rfl | (simp only [List.length_drop, List.length_take]; rfl)) ?_; (with_reducible refine (spec_l20Rd_odd.calls kj3 g s0_0 x1001_3 a1 true t455 w0 _ ?side1 ?side2 A59.out).mono ?_); (case side1 => repeat (first | (with_reducible first | exact HI0.out | apply IsS140.alloc | apply IsS140.drewN | apply IsS140.drew | apply IsS140.set_1 | refine IsS140.far ?_ NB0_431.out _ | refine IsS140.far ?_ NB0_432.out _) | exact HI0.out)); (case side2 => repeat (first | (with_reducible first | exact HB.out | apply below_alloc | apply pw_below_drewN | apply below_drew1 | refine below_set ?_ (IsS140.ge HI0.out) | refine below_set ?_ GE431.out | refine below_set ?_ GE432.out) | exact HB.out)); rintro e w63 ⟨rfl, hi, hb, hk⟩; refine ⟨_, rfl, ?_⟩; have n0_ := Aside0.mk (KeepBut.blk hk (g' := gb431) (o := .cells #[.int .i64 0, .int .i64 0, .string (⟨#[]⟩ : ByteArray)] 28 (0, 0)) (by (with_reducible repeat (first | refine blk_drewN ?_ _ | refine blk_drew ?_ | refine blk_alloc ?_ _)); exact BK431.out) NB431_0.out (by simp)); have n1_ := Aside0.mk (KeepBut.blk hk (g' := gb432) (o := .cells #[.int .i64 x433000_3, .int .i64 x433001_3, .string x433002_3] 28 (0, 0)) (by (with_reducible repeat (first | refine blk_drewN ?_ _ | refine blk_drew ?_ | refine blk_alloc ?_ _)); exact BK432.out) NB432_0.out (by simp)); have n2_ := Aside0.mk (KeepBut.trans (by repeat (first | (with_reducible first | exact HK.out | apply KeepBut.set_ | apply keep_drewN | apply keep_drew | apply keep_alloc | refine keep_far ?_ GW431.out _ | refine keep_far ?_ GW432.out _) | exact HK.out)) hk (.inl rfl)); have n3_ := Aside0.mk (hb); have n4_ := Aside0.mk (hi); clear BK431; clear BK432; clear HK; clear HB; clear HI0; have BK431 := n0_; have BK432 := n1_; have HK := n2_; have HB := n3_; have HI0 := n4_; clear n0_ n1_ n2_ n3_ n4_; (try clear hb); (try clear hb2); (try clear hk); (try clear hi)) | ((with_reducible refine gate_callee (f := 110) rfl ?_); refine goesL_ (some 56) rfl rfl Try.func110 (by kernel_rfl) rfl #[.pointer (some ⟨g, 0, none⟩), .int .i64 4] rfl (by (try simp only [List.map_toArray, List.map_cons, List.map_nil]); first | done | rfl | (simp only [List.length_drop, List.length_take]; rfl)) ?_; (with_reducible refine (spec_l20Rd_pick.calls kj3 g s0_0 t455 4 t456 t457 w0 _ ?side1 ?side2 A61.out).mono ?_); (case side1 => repeat (first | (with_reducible first | exact HI0.out | apply IsS140.alloc | apply IsS140.drewN | apply IsS140.drew | apply IsS140.set_1 | refine IsS140.far ?_ NB0_431.out _ | refine IsS140.far ?_ NB0_432.out _) | exact HI0.out)); (case side2 => repeat (first | (with_reducible first | exact HB.out | apply below_alloc | apply pw_below_drewN | apply below_drew1 | refine below_set ?_ (IsS140.ge HI0.out) | refine below_set ?_ GE431.out | refine below_set ?_ GE432.out) | exact HB.out)); rintro e w64 ⟨rfl, hi, hb, hk⟩; refine ⟨_, rfl, ?_⟩; have n0_ := Aside0.mk (KeepBut.blk hk (g' := gb431) (o := .cells #[.int .i64 0, .int .i64 0, .string (⟨#[]⟩ : ByteArray)] 28 (0, 0)) (by (with_reducible repeat (first | refine blk_drewN ?_ _ | refine blk_drew ?_ | refine blk_alloc ?_ _)); exact BK431.out) NB431_0.out (by simp)); have n1_ := Aside0.mk (KeepBut.blk hk (g' := gb432) (o := .cells #[.int .i64 x433000_3, .int .i64 x433001_3, .string x433002_3] 28 (0, 0)) (by (with_reducible repeat (first | refine blk_drewN ?_ _ | refine blk_drew ?_ | refine blk_alloc ?_ _)); exact BK432.out) NB432_0.out (by simp)); have n2_ := Aside0.mk (KeepBut.trans (by repeat (first | (with_reducible first | exact HK.out | apply KeepBut.set_ | apply keep_drewN | apply keep_drew | apply keep_alloc | refine keep_far ?_ GW431.out _ | refine keep_far ?_ GW432.out _) | exact HK.out)) hk (.inl rfl)); have n3_ := Aside0.mk (hb); have n4_ := Aside0.mk (hi); clear BK431; clear BK432; clear HK; clear HB; clear HI0; have BK431 := n0_; have BK432 := n1_; have HK := n2_; have HB := n3_; have HI0 := n4_; clear n0_ n1_ n2_ n3_ n4_; (try clear hb); (try clear hb2); (try clear hk); (try clear hi); have hnb65 := NB432_431.out; have hnc65 := NB431_432.out; have hnb66 := NB432_0.out; have hnc66 := NB0_432.out; have hcz67_0 : w64.cell? ⟨gb432, 0, none⟩ = some (.int .i64 x433000_3) := (blk_cell BK432.out 0).trans rfl; have hcz67_1 : w64.cell? ⟨gb432, 1, none⟩ = some (.int .i64 x433001_3) := (blk_cell BK432.out 1).trans rfl; have hcz67_2 : w64.cell? ⟨gb432, 2, none⟩ = some (.string x433002_3) := (blk_cell BK432.out 2).trans rfl; have hfz67_0 := blk_frozen BK432.out 0; have hfz67_1 := blk_frozen BK432.out 1; have hfz67_2 := blk_frozen BK432.out 2; have hnb68 := NB431_0.out; have hnc68 := NB0_431.out; have hcz69_0 : w64.cell? ⟨gb431, 0, none⟩ = some (.int .i64 0) := (blk_cell BK431.out 0).trans rfl; have hcz69_1 : w64.cell? ⟨gb431, 1, none⟩ = some (.int .i64 0) := (blk_cell BK431.out 1).trans rfl; have hcz69_2 : w64.cell? ⟨gb431, 2, none⟩ = some (.string (⟨#[]⟩ : ByteArray)) := (blk_cell BK431.out 2).trans rfl; have hfz69_0 := blk_frozen BK431.out 0; have hfz69_1 := blk_frozen BK431.out 1; have hfz69_2 := blk_frozen BK431.out 2))
          refine bodyPost_ret (results_cell_row rfl _ _ gb431 28 #[.int .i64 x433000_3, .int .i64 10000, .string x433002_3] (0, 0) _ rfl (by (with_reducible repeat (first | refine blk_drewN ?_ _ | refine blk_drew ?_ | refine blk_alloc ?_ _)); refine blk_put (cs := #[.int .i64 x433000_3, .int .i64 10000, .string (⟨#[]⟩ : ByteArray)]) ?_ 2 _ rfl; (with_reducible repeat (first | refine blk_drewN ?_ _ | refine blk_drew ?_ | refine blk_alloc ?_ _)); refine blk_put (cs := #[.int .i64 x433000_3, .int .i64 0, .string (⟨#[]⟩ : ByteArray)]) ?_ 1 _ rfl; (with_reducible repeat (first | refine blk_drewN ?_ _ | refine blk_drew ?_ | refine blk_alloc ?_ _)); refine blk_put (cs := #[.int .i64 0, .int .i64 0, .string (⟨#[]⟩ : ByteArray)]) ?_ 0 _ rfl; (with_reducible repeat (first | refine blk_drewN ?_ _ | refine blk_drew ?_ | refine blk_alloc ?_ _)); refine blk_far ?_ NB431_432.out _; (with_reducible repeat (first | refine blk_drewN ?_ _ | refine blk_drew ?_ | refine blk_alloc ?_ _)); exact BK431.out) Try.underlying28 rfl (by kernel_rfl)) rfl ?_
          exact ⟨by first | rfl | (simp [errW_none, errW_some] <;> rfl) | (simp [*, errW_none, errW_some] <;> rfl), by repeat (first | (with_reducible first | exact HI0.out | apply IsS140.alloc | apply IsS140.drewN | apply IsS140.drew | apply IsS140.set_1 | refine IsS140.far ?_ NB0_431.out _ | refine IsS140.far ?_ NB0_432.out _) | exact HI0.out), by repeat (first | (with_reducible first | exact HB.out | apply below_alloc | apply pw_below_drewN | apply below_drew1 | refine below_set ?_ (IsS140.ge HI0.out) | refine below_set ?_ GE431.out | refine below_set ?_ GE432.out) | exact HB.out), by repeat (first | (with_reducible first | exact HK.out | apply KeepBut.set_ | apply keep_drewN | apply keep_drew | apply keep_alloc | refine keep_far ?_ GW431.out _ | refine keep_far ?_ GW432.out _) | exact HK.out)⟩
        · rw [if_neg c62] at H
          have c62b0 : (t456 == 0) = false := beq_eq_false_iff_ne.mpr c62
          have c62b1 : (t456 != 0) = true := bne_iff_ne.mpr c62
          by_cases c70 : t456 = 1
          · rw [if_pos c70] at H
            have c70b0 : (t456 == 1) = true := beq_iff_eq.mpr c70
            have c70b1 : (t456 != 1) = false := bne_eq_false_iff_eq.mpr c70
            clear c70
            by_cases c71 : x433002_3.size + 7 ≤ 9223372036854775807
            · rw [if_pos c71] at H
              have c71b0 := eq_true c71
              have c71b1 : decide (x433002_3.size + 7 ≤ 9223372036854775807) = true := decide_eq_true c71
              try have c71b2 : (9223372036854775807 < x433002_3.size + 7) = False := eq_false (Nat.not_lt.2 c71)
              simp only [Option.some.injEq, Prod.mk.injEq] at H
              obtain ⟨rfl, rfl, rfl, rfl⟩ := H
              go_wp2_with (first | ((with_reducible refine gate_callee (f := 111) rfl ?_); refine goesL_ (some 54) rfl rfl Try.func111 (by kernel_rfl) rfl #[.pointer (some ⟨g, 0, none⟩), .int .i64 a1] rfl (by (try simp only [List.map_toArray, List.map_cons, List.map_nil]); first | done | rfl | (simp only [List.length_drop, List.length_take]; rfl)) ?_; (with_reducible refine (spec_l20Rd_odd.calls kj3 g s0_0 x1001_3 a1 true t455 w0 _ ?side1 ?side2 A59.out).mono ?_); (case side1 => repeat (first | (with_reducible first | exact HI0.out | apply IsS140.alloc | apply IsS140.drewN | apply IsS140.drew | apply IsS140.set_1 | refine IsS140.far ?_ NB0_431.out _ | refine IsS140.far ?_ NB0_432.out _) | exact HI0.out)); (case side2 => repeat (first | (with_reducible first | exact HB.out | apply below_alloc | apply pw_below_drewN | apply below_drew1 | refine below_set ?_ (IsS140.ge HI0.out) | refine below_set ?_ GE431.out | refine below_set ?_ GE432.out) | exact HB.out)); rintro e w72 ⟨rfl, hi, hb, hk⟩; refine ⟨_, rfl, ?_⟩; have n0_ := Aside0.mk (KeepBut.blk hk (g' := gb431) (o := .cells #[.int .i64 0, .int .i64 0, .string (⟨#[]⟩ : ByteArray)] 28 (0, 0)) (by (with_reducible repeat (first | refine blk_drewN ?_ _ | refine blk_drew ?_ | refine blk_alloc ?_ _)); exact BK431.out) NB431_0.out (by simp)); have n1_ := Aside0.mk (KeepBut.blk hk (g' := gb432) (o := .cells #[.int .i64 x433000_3, .int .i64 x433001_3, .string x433002_3] 28 (0, 0)) (by (with_reducible repeat (first | refine blk_drewN ?_ _ | refine blk_drew ?_ | refine blk_alloc ?_ _)); exact BK432.out) NB432_0.out (by simp)); have n2_ := Aside0.mk (KeepBut.trans (by repeat (first | (with_reducible first | exact HK.out | apply KeepBut.set_ | apply keep_drewN | apply keep_drew | apply keep_alloc | refine keep_far ?_ GW431.out _ | refine keep_far ?_ GW432.out _) | exact HK.out)) hk (.inl rfl)); have n3_ := Aside0.mk (hb); have n4_ := Aside0.mk (hi); clear BK431; clear BK432; clear HK; clear HB; clear HI0; have BK431 := n0_; have BK432 := n1_; have HK := n2_; have HB := n3_; have HI0 := n4_; clear n0_ n1_ n2_ n3_ n4_; (try clear hb); (try clear hb2); (try clear hk); (try clear hi)) | ((with_reducible refine gate_callee (f := 110) rfl ?_); refine goesL_ (some 56) rfl rfl Try.func110 (by kernel_rfl) rfl #[.pointer (some ⟨g, 0, none⟩), .int .i64 4] rfl (by (try simp only [List.map_toArray, List.map_cons, List.map_nil]); first | done | rfl | (simp only [List.length_drop, List.length_take]; rfl)) ?_; (with_reducible refine (spec_l20Rd_pick.calls kj3 g s0_0 t455 4 t456 t457 w0 _ ?side1 ?side2 A61.out).mono ?_); (case side1 => repeat (first | (with_reducible first | exact HI0.out | apply IsS140.alloc | apply IsS140.drewN | apply IsS140.drew | apply IsS140.set_1 | refine IsS140.far ?_ NB0_431.out _ | refine IsS140.far ?_ NB0_432.out _) | exact HI0.out)); (case side2 => repeat (first | (with_reducible first | exact HB.out | apply below_alloc | apply pw_below_drewN | apply below_drew1 | refine below_set ?_ (IsS140.ge HI0.out) | refine below_set ?_ GE431.out | refine below_set ?_ GE432.out) | exact HB.out)); rintro e w73 ⟨rfl, hi, hb, hk⟩; refine ⟨_, rfl, ?_⟩; have n0_ := Aside0.mk (KeepBut.blk hk (g' := gb431) (o := .cells #[.int .i64 0, .int .i64 0, .string (⟨#[]⟩ : ByteArray)] 28 (0, 0)) (by (with_reducible repeat (first | refine blk_drewN ?_ _ | refine blk_drew ?_ | refine blk_alloc ?_ _)); exact BK431.out) NB431_0.out (by simp)); have n1_ := Aside0.mk (KeepBut.blk hk (g' := gb432) (o := .cells #[.int .i64 x433000_3, .int .i64 x433001_3, .string x433002_3] 28 (0, 0)) (by (with_reducible repeat (first | refine blk_drewN ?_ _ | refine blk_drew ?_ | refine blk_alloc ?_ _)); exact BK432.out) NB432_0.out (by simp)); have n2_ := Aside0.mk (KeepBut.trans (by repeat (first | (with_reducible first | exact HK.out | apply KeepBut.set_ | apply keep_drewN | apply keep_drew | apply keep_alloc | refine keep_far ?_ GW431.out _ | refine keep_far ?_ GW432.out _) | exact HK.out)) hk (.inl rfl)); have n3_ := Aside0.mk (hb); have n4_ := Aside0.mk (hi); clear BK431; clear BK432; clear HK; clear HB; clear HI0; have BK431 := n0_; have BK432 := n1_; have HK := n2_; have HB := n3_; have HI0 := n4_; clear n0_ n1_ n2_ n3_ n4_; (try clear hb); (try clear hb2); (try clear hk); (try clear hi); have hnb74 := NB432_431.out; have hnc74 := NB431_432.out; have hnb75 := NB432_0.out; have hnc75 := NB0_432.out; have hcz76_0 : w73.cell? ⟨gb432, 0, none⟩ = some (.int .i64 x433000_3) := (blk_cell BK432.out 0).trans rfl; have hcz76_1 : w73.cell? ⟨gb432, 1, none⟩ = some (.int .i64 x433001_3) := (blk_cell BK432.out 1).trans rfl; have hcz76_2 : w73.cell? ⟨gb432, 2, none⟩ = some (.string x433002_3) := (blk_cell BK432.out 2).trans rfl; have hfz76_0 := blk_frozen BK432.out 0; have hfz76_1 := blk_frozen BK432.out 1; have hfz76_2 := blk_frozen BK432.out 2; have hnb77 := NB431_0.out; have hnc77 := NB0_431.out; have hcz78_0 : w73.cell? ⟨gb431, 0, none⟩ = some (.int .i64 0) := (blk_cell BK431.out 0).trans rfl; have hcz78_1 : w73.cell? ⟨gb431, 1, none⟩ = some (.int .i64 0) := (blk_cell BK431.out 1).trans rfl; have hcz78_2 : w73.cell? ⟨gb431, 2, none⟩ = some (.string (⟨#[]⟩ : ByteArray)) := (blk_cell BK431.out 2).trans rfl; have hfz78_0 := blk_frozen BK431.out 0; have hfz78_1 := blk_frozen BK431.out 1; have hfz78_2 := blk_frozen BK431.out 2))
              refine bodyPost_ret (results_cell_row rfl _ _ gb431 28 #[.int .i64 x433000_3, .int .i64 x433001_3, .string (x433002_3 ++ (⟨#[97, 98, 99, 100, 101, 102, 103]⟩ : ByteArray))] (0, 0) _ rfl (by (with_reducible repeat (first | refine blk_drewN ?_ _ | refine blk_drew ?_ | refine blk_alloc ?_ _)); refine blk_put (cs := #[.int .i64 x433000_3, .int .i64 x433001_3, .string (⟨#[]⟩ : ByteArray)]) ?_ 2 _ rfl; (with_reducible repeat (first | refine blk_drewN ?_ _ | refine blk_drew ?_ | refine blk_alloc ?_ _)); refine blk_put (cs := #[.int .i64 x433000_3, .int .i64 0, .string (⟨#[]⟩ : ByteArray)]) ?_ 1 _ rfl; (with_reducible repeat (first | refine blk_drewN ?_ _ | refine blk_drew ?_ | refine blk_alloc ?_ _)); refine blk_put (cs := #[.int .i64 0, .int .i64 0, .string (⟨#[]⟩ : ByteArray)]) ?_ 0 _ rfl; (with_reducible repeat (first | refine blk_drewN ?_ _ | refine blk_drew ?_ | refine blk_alloc ?_ _)); refine blk_far ?_ NB431_432.out _; (with_reducible repeat (first | refine blk_drewN ?_ _ | refine blk_drew ?_ | refine blk_alloc ?_ _)); exact BK431.out) Try.underlying28 rfl (by kernel_rfl)) rfl ?_
              exact ⟨by first | rfl | (simp [errW_none, errW_some] <;> rfl) | (simp [*, errW_none, errW_some] <;> rfl), by repeat (first | (with_reducible first | exact HI0.out | apply IsS140.alloc | apply IsS140.drewN | apply IsS140.drew | apply IsS140.set_1 | refine IsS140.far ?_ NB0_431.out _ | refine IsS140.far ?_ NB0_432.out _) | exact HI0.out), by repeat (first | (with_reducible first | exact HB.out | apply below_alloc | apply pw_below_drewN | apply below_drew1 | refine below_set ?_ (IsS140.ge HI0.out) | refine below_set ?_ GE431.out | refine below_set ?_ GE432.out) | exact HB.out), by repeat (first | (with_reducible first | exact HK.out | apply KeepBut.set_ | apply keep_drewN | apply keep_drew | apply keep_alloc | refine keep_far ?_ GW431.out _ | refine keep_far ?_ GW432.out _) | exact HK.out)⟩
            · rw [if_neg c71] at H
              exact absurd H (by simp)
          · rw [if_neg c70] at H
            have c70b0 : (t456 == 1) = false := beq_eq_false_iff_ne.mpr c70
            have c70b1 : (t456 != 1) = true := bne_iff_ne.mpr c70
            by_cases c79 : t456 = 2
            · rw [if_pos c79] at H
              have c79b0 : (t456 == 2) = true := beq_iff_eq.mpr c79
              have c79b1 : (t456 != 2) = false := bne_eq_false_iff_eq.mpr c79
              clear c79
              replace H := Option.bind_eq_some_iff.mp H
              obtain ⟨⟨t458, t459⟩, A800, H⟩ := H
              replace H : (some (wrap64 (t458 - 1), x433001_3, x433002_3, t459)) = some (r1, r2, r3, r4) := H
              have A80 := Aside0.mk A800
              clear A800
              simp only [Option.some.injEq, Prod.mk.injEq] at H
              obtain ⟨rfl, rfl, rfl, rfl⟩ := H
              go_wp2_with (first | ((with_reducible refine gate_callee (f := 111) rfl ?_); refine goesL_ (some 54) rfl rfl Try.func111 (by kernel_rfl) rfl #[.pointer (some ⟨g, 0, none⟩), .int .i64 a1] rfl (by (try simp only [List.map_toArray, List.map_cons, List.map_nil]); first | done | rfl | (simp only [List.length_drop, List.length_take]; rfl)) ?_; (with_reducible refine (spec_l20Rd_odd.calls kj3 g s0_0 x1001_3 a1 true t455 w0 _ ?side1 ?side2 A59.out).mono ?_); (case side1 => repeat (first | (with_reducible first | exact HI0.out | apply IsS140.alloc | apply IsS140.drewN | apply IsS140.drew | apply IsS140.set_1 | refine IsS140.far ?_ NB0_431.out _ | refine IsS140.far ?_ NB0_432.out _) | exact HI0.out)); (case side2 => repeat (first | (with_reducible first | exact HB.out | apply below_alloc | apply pw_below_drewN | apply below_drew1 | refine below_set ?_ (IsS140.ge HI0.out) | refine below_set ?_ GE431.out | refine below_set ?_ GE432.out) | exact HB.out)); rintro e w81 ⟨rfl, hi, hb, hk⟩; refine ⟨_, rfl, ?_⟩; have n0_ := Aside0.mk (KeepBut.blk hk (g' := gb431) (o := .cells #[.int .i64 0, .int .i64 0, .string (⟨#[]⟩ : ByteArray)] 28 (0, 0)) (by (with_reducible repeat (first | refine blk_drewN ?_ _ | refine blk_drew ?_ | refine blk_alloc ?_ _)); exact BK431.out) NB431_0.out (by simp)); have n1_ := Aside0.mk (KeepBut.blk hk (g' := gb432) (o := .cells #[.int .i64 x433000_3, .int .i64 x433001_3, .string x433002_3] 28 (0, 0)) (by (with_reducible repeat (first | refine blk_drewN ?_ _ | refine blk_drew ?_ | refine blk_alloc ?_ _)); exact BK432.out) NB432_0.out (by simp)); have n2_ := Aside0.mk (KeepBut.trans (by repeat (first | (with_reducible first | exact HK.out | apply KeepBut.set_ | apply keep_drewN | apply keep_drew | apply keep_alloc | refine keep_far ?_ GW431.out _ | refine keep_far ?_ GW432.out _) | exact HK.out)) hk (.inl rfl)); have n3_ := Aside0.mk (hb); have n4_ := Aside0.mk (hi); clear BK431; clear BK432; clear HK; clear HB; clear HI0; have BK431 := n0_; have BK432 := n1_; have HK := n2_; have HB := n3_; have HI0 := n4_; clear n0_ n1_ n2_ n3_ n4_; (try clear hb); (try clear hb2); (try clear hk); (try clear hi)) | ((with_reducible refine gate_callee (f := 110) rfl ?_); refine goesL_ (some 56) rfl rfl Try.func110 (by kernel_rfl) rfl #[.pointer (some ⟨g, 0, none⟩), .int .i64 4] rfl (by (try simp only [List.map_toArray, List.map_cons, List.map_nil]); first | done | rfl | (simp only [List.length_drop, List.length_take]; rfl)) ?_; (with_reducible refine (spec_l20Rd_pick.calls kj3 g s0_0 t455 4 t456 t457 w0 _ ?side1 ?side2 A61.out).mono ?_); (case side1 => repeat (first | (with_reducible first | exact HI0.out | apply IsS140.alloc | apply IsS140.drewN | apply IsS140.drew | apply IsS140.set_1 | refine IsS140.far ?_ NB0_431.out _ | refine IsS140.far ?_ NB0_432.out _) | exact HI0.out)); (case side2 => repeat (first | (with_reducible first | exact HB.out | apply below_alloc | apply pw_below_drewN | apply below_drew1 | refine below_set ?_ (IsS140.ge HI0.out) | refine below_set ?_ GE431.out | refine below_set ?_ GE432.out) | exact HB.out)); rintro e w82 ⟨rfl, hi, hb, hk⟩; refine ⟨_, rfl, ?_⟩; have n0_ := Aside0.mk (KeepBut.blk hk (g' := gb431) (o := .cells #[.int .i64 0, .int .i64 0, .string (⟨#[]⟩ : ByteArray)] 28 (0, 0)) (by (with_reducible repeat (first | refine blk_drewN ?_ _ | refine blk_drew ?_ | refine blk_alloc ?_ _)); exact BK431.out) NB431_0.out (by simp)); have n1_ := Aside0.mk (KeepBut.blk hk (g' := gb432) (o := .cells #[.int .i64 x433000_3, .int .i64 x433001_3, .string x433002_3] 28 (0, 0)) (by (with_reducible repeat (first | refine blk_drewN ?_ _ | refine blk_drew ?_ | refine blk_alloc ?_ _)); exact BK432.out) NB432_0.out (by simp)); have n2_ := Aside0.mk (KeepBut.trans (by repeat (first | (with_reducible first | exact HK.out | apply KeepBut.set_ | apply keep_drewN | apply keep_drew | apply keep_alloc | refine keep_far ?_ GW431.out _ | refine keep_far ?_ GW432.out _) | exact HK.out)) hk (.inl rfl)); have n3_ := Aside0.mk (hb); have n4_ := Aside0.mk (hi); clear BK431; clear BK432; clear HK; clear HB; clear HI0; have BK431 := n0_; have BK432 := n1_; have HK := n2_; have HB := n3_; have HI0 := n4_; clear n0_ n1_ n2_ n3_ n4_; (try clear hb); (try clear hb2); (try clear hk); (try clear hi)) | ((with_reducible refine gate_callee (f := 110) rfl ?_); refine goesL_ (some 73) rfl rfl Try.func110 (by kernel_rfl) rfl #[.pointer (some ⟨g, 0, none⟩), .int .i64 7] rfl (by (try simp only [List.map_toArray, List.map_cons, List.map_nil]); first | done | rfl | (simp only [List.length_drop, List.length_take]; rfl)) ?_; (with_reducible refine (spec_l20Rd_pick.calls kj3 g s0_0 t457 7 t458 t459 w0 _ ?side1 ?side2 A80.out).mono ?_); (case side1 => repeat (first | (with_reducible first | exact HI0.out | apply IsS140.alloc | apply IsS140.drewN | apply IsS140.drew | apply IsS140.set_1 | refine IsS140.far ?_ NB0_431.out _ | refine IsS140.far ?_ NB0_432.out _) | exact HI0.out)); (case side2 => repeat (first | (with_reducible first | exact HB.out | apply below_alloc | apply pw_below_drewN | apply below_drew1 | refine below_set ?_ (IsS140.ge HI0.out) | refine below_set ?_ GE431.out | refine below_set ?_ GE432.out) | exact HB.out)); rintro e w83 ⟨rfl, hi, hb, hk⟩; refine ⟨_, rfl, ?_⟩; have n0_ := Aside0.mk (KeepBut.blk hk (g' := gb431) (o := .cells #[.int .i64 0, .int .i64 0, .string (⟨#[]⟩ : ByteArray)] 28 (0, 0)) (by (with_reducible repeat (first | refine blk_drewN ?_ _ | refine blk_drew ?_ | refine blk_alloc ?_ _)); exact BK431.out) NB431_0.out (by simp)); have n1_ := Aside0.mk (KeepBut.blk hk (g' := gb432) (o := .cells #[.int .i64 x433000_3, .int .i64 x433001_3, .string x433002_3] 28 (0, 0)) (by (with_reducible repeat (first | refine blk_drewN ?_ _ | refine blk_drew ?_ | refine blk_alloc ?_ _)); exact BK432.out) NB432_0.out (by simp)); have n2_ := Aside0.mk (KeepBut.trans (by repeat (first | (with_reducible first | exact HK.out | apply KeepBut.set_ | apply keep_drewN | apply keep_drew | apply keep_alloc | refine keep_far ?_ GW431.out _ | refine keep_far ?_ GW432.out _) | exact HK.out)) hk (.inl rfl)); have n3_ := Aside0.mk (hb); have n4_ := Aside0.mk (hi); clear BK431; clear BK432; clear HK; clear HB; clear HI0; have BK431 := n0_; have BK432 := n1_; have HK := n2_; have HB := n3_; have HI0 := n4_; clear n0_ n1_ n2_ n3_ n4_; (try clear hb); (try clear hb2); (try clear hk); (try clear hi); have hnb84 := NB432_431.out; have hnc84 := NB431_432.out; have hnb85 := NB432_0.out; have hnc85 := NB0_432.out; have hcz86_0 : w83.cell? ⟨gb432, 0, none⟩ = some (.int .i64 x433000_3) := (blk_cell BK432.out 0).trans rfl; have hcz86_1 : w83.cell? ⟨gb432, 1, none⟩ = some (.int .i64 x433001_3) := (blk_cell BK432.out 1).trans rfl; have hcz86_2 : w83.cell? ⟨gb432, 2, none⟩ = some (.string x433002_3) := (blk_cell BK432.out 2).trans rfl; have hfz86_0 := blk_frozen BK432.out 0; have hfz86_1 := blk_frozen BK432.out 1; have hfz86_2 := blk_frozen BK432.out 2; have hnb87 := NB431_0.out; have hnc87 := NB0_431.out; have hcz88_0 : w83.cell? ⟨gb431, 0, none⟩ = some (.int .i64 0) := (blk_cell BK431.out 0).trans rfl; have hcz88_1 : w83.cell? ⟨gb431, 1, none⟩ = some (.int .i64 0) := (blk_cell BK431.out 1).trans rfl; have hcz88_2 : w83.cell? ⟨gb431, 2, none⟩ = some (.string (⟨#[]⟩ : ByteArray)) := (blk_cell BK431.out 2).trans rfl; have hfz88_0 := blk_frozen BK431.out 0; have hfz88_1 := blk_frozen BK431.out 1; have hfz88_2 := blk_frozen BK431.out 2))
              refine bodyPost_ret (results_cell_row rfl _ _ gb431 28 #[.int .i64 (wrap64 (t458 - 1)), .int .i64 x433001_3, .string x433002_3] (0, 0) _ rfl (by (with_reducible repeat (first | refine blk_drewN ?_ _ | refine blk_drew ?_ | refine blk_alloc ?_ _)); refine blk_put (cs := #[.int .i64 (wrap64 (t458 - 1)), .int .i64 x433001_3, .string (⟨#[]⟩ : ByteArray)]) ?_ 2 _ rfl; (with_reducible repeat (first | refine blk_drewN ?_ _ | refine blk_drew ?_ | refine blk_alloc ?_ _)); refine blk_put (cs := #[.int .i64 (wrap64 (t458 - 1)), .int .i64 0, .string (⟨#[]⟩ : ByteArray)]) ?_ 1 _ rfl; (with_reducible repeat (first | refine blk_drewN ?_ _ | refine blk_drew ?_ | refine blk_alloc ?_ _)); refine blk_put (cs := #[.int .i64 0, .int .i64 0, .string (⟨#[]⟩ : ByteArray)]) ?_ 0 _ rfl; (with_reducible repeat (first | refine blk_drewN ?_ _ | refine blk_drew ?_ | refine blk_alloc ?_ _)); refine blk_far ?_ NB431_432.out _; (with_reducible repeat (first | refine blk_drewN ?_ _ | refine blk_drew ?_ | refine blk_alloc ?_ _)); exact BK431.out) Try.underlying28 rfl (by kernel_rfl)) rfl ?_
              exact ⟨by first | rfl | (simp [errW_none, errW_some] <;> rfl) | (simp [*, errW_none, errW_some] <;> rfl), by repeat (first | (with_reducible first | exact HI0.out | apply IsS140.alloc | apply IsS140.drewN | apply IsS140.drew | apply IsS140.set_1 | refine IsS140.far ?_ NB0_431.out _ | refine IsS140.far ?_ NB0_432.out _) | exact HI0.out), by repeat (first | (with_reducible first | exact HB.out | apply below_alloc | apply pw_below_drewN | apply below_drew1 | refine below_set ?_ (IsS140.ge HI0.out) | refine below_set ?_ GE431.out | refine below_set ?_ GE432.out) | exact HB.out), by repeat (first | (with_reducible first | exact HK.out | apply KeepBut.set_ | apply keep_drewN | apply keep_drew | apply keep_alloc | refine keep_far ?_ GW431.out _ | refine keep_far ?_ GW432.out _) | exact HK.out)⟩
            · rw [if_neg c79] at H
              have c79b0 : (t456 == 2) = false := beq_eq_false_iff_ne.mpr c79
              have c79b1 : (t456 != 2) = true := bne_iff_ne.mpr c79
              by_cases c89 : x433002_3.size + 1 ≤ 9223372036854775807
              · rw [if_pos c89] at H
                have c89b0 := eq_true c89
                have c89b1 : decide (x433002_3.size + 1 ≤ 9223372036854775807) = true := decide_eq_true c89
                try have c89b2 : (9223372036854775807 < x433002_3.size + 1) = False := eq_false (Nat.not_lt.2 c89)
                simp only [Option.some.injEq, Prod.mk.injEq] at H
                obtain ⟨rfl, rfl, rfl, rfl⟩ := H
                go_wp2_with (first | ((with_reducible refine gate_callee (f := 111) rfl ?_); refine goesL_ (some 54) rfl rfl Try.func111 (by kernel_rfl) rfl #[.pointer (some ⟨g, 0, none⟩), .int .i64 a1] rfl (by (try simp only [List.map_toArray, List.map_cons, List.map_nil]); first | done | rfl | (simp only [List.length_drop, List.length_take]; rfl)) ?_; (with_reducible refine (spec_l20Rd_odd.calls kj3 g s0_0 x1001_3 a1 true t455 w0 _ ?side1 ?side2 A59.out).mono ?_); (case side1 => repeat (first | (with_reducible first | exact HI0.out | apply IsS140.alloc | apply IsS140.drewN | apply IsS140.drew | apply IsS140.set_1 | refine IsS140.far ?_ NB0_431.out _ | refine IsS140.far ?_ NB0_432.out _) | exact HI0.out)); (case side2 => repeat (first | (with_reducible first | exact HB.out | apply below_alloc | apply pw_below_drewN | apply below_drew1 | refine below_set ?_ (IsS140.ge HI0.out) | refine below_set ?_ GE431.out | refine below_set ?_ GE432.out) | exact HB.out)); rintro e w90 ⟨rfl, hi, hb, hk⟩; refine ⟨_, rfl, ?_⟩; have n0_ := Aside0.mk (KeepBut.blk hk (g' := gb431) (o := .cells #[.int .i64 0, .int .i64 0, .string (⟨#[]⟩ : ByteArray)] 28 (0, 0)) (by (with_reducible repeat (first | refine blk_drewN ?_ _ | refine blk_drew ?_ | refine blk_alloc ?_ _)); exact BK431.out) NB431_0.out (by simp)); have n1_ := Aside0.mk (KeepBut.blk hk (g' := gb432) (o := .cells #[.int .i64 x433000_3, .int .i64 x433001_3, .string x433002_3] 28 (0, 0)) (by (with_reducible repeat (first | refine blk_drewN ?_ _ | refine blk_drew ?_ | refine blk_alloc ?_ _)); exact BK432.out) NB432_0.out (by simp)); have n2_ := Aside0.mk (KeepBut.trans (by repeat (first | (with_reducible first | exact HK.out | apply KeepBut.set_ | apply keep_drewN | apply keep_drew | apply keep_alloc | refine keep_far ?_ GW431.out _ | refine keep_far ?_ GW432.out _) | exact HK.out)) hk (.inl rfl)); have n3_ := Aside0.mk (hb); have n4_ := Aside0.mk (hi); clear BK431; clear BK432; clear HK; clear HB; clear HI0; have BK431 := n0_; have BK432 := n1_; have HK := n2_; have HB := n3_; have HI0 := n4_; clear n0_ n1_ n2_ n3_ n4_; (try clear hb); (try clear hb2); (try clear hk); (try clear hi)) | ((with_reducible refine gate_callee (f := 110) rfl ?_); refine goesL_ (some 56) rfl rfl Try.func110 (by kernel_rfl) rfl #[.pointer (some ⟨g, 0, none⟩), .int .i64 4] rfl (by (try simp only [List.map_toArray, List.map_cons, List.map_nil]); first | done | rfl | (simp only [List.length_drop, List.length_take]; rfl)) ?_; (with_reducible refine (spec_l20Rd_pick.calls kj3 g s0_0 t455 4 t456 t457 w0 _ ?side1 ?side2 A61.out).mono ?_); (case side1 => repeat (first | (with_reducible first | exact HI0.out | apply IsS140.alloc | apply IsS140.drewN | apply IsS140.drew | apply IsS140.set_1 | refine IsS140.far ?_ NB0_431.out _ | refine IsS140.far ?_ NB0_432.out _) | exact HI0.out)); (case side2 => repeat (first | (with_reducible first | exact HB.out | apply below_alloc | apply pw_below_drewN | apply below_drew1 | refine below_set ?_ (IsS140.ge HI0.out) | refine below_set ?_ GE431.out | refine below_set ?_ GE432.out) | exact HB.out)); rintro e w91 ⟨rfl, hi, hb, hk⟩; refine ⟨_, rfl, ?_⟩; have n0_ := Aside0.mk (KeepBut.blk hk (g' := gb431) (o := .cells #[.int .i64 0, .int .i64 0, .string (⟨#[]⟩ : ByteArray)] 28 (0, 0)) (by (with_reducible repeat (first | refine blk_drewN ?_ _ | refine blk_drew ?_ | refine blk_alloc ?_ _)); exact BK431.out) NB431_0.out (by simp)); have n1_ := Aside0.mk (KeepBut.blk hk (g' := gb432) (o := .cells #[.int .i64 x433000_3, .int .i64 x433001_3, .string x433002_3] 28 (0, 0)) (by (with_reducible repeat (first | refine blk_drewN ?_ _ | refine blk_drew ?_ | refine blk_alloc ?_ _)); exact BK432.out) NB432_0.out (by simp)); have n2_ := Aside0.mk (KeepBut.trans (by repeat (first | (with_reducible first | exact HK.out | apply KeepBut.set_ | apply keep_drewN | apply keep_drew | apply keep_alloc | refine keep_far ?_ GW431.out _ | refine keep_far ?_ GW432.out _) | exact HK.out)) hk (.inl rfl)); have n3_ := Aside0.mk (hb); have n4_ := Aside0.mk (hi); clear BK431; clear BK432; clear HK; clear HB; clear HI0; have BK431 := n0_; have BK432 := n1_; have HK := n2_; have HB := n3_; have HI0 := n4_; clear n0_ n1_ n2_ n3_ n4_; (try clear hb); (try clear hb2); (try clear hk); (try clear hi); have hnb92 := NB432_431.out; have hnc92 := NB431_432.out; have hnb93 := NB432_0.out; have hnc93 := NB0_432.out; have hcz94_0 : w91.cell? ⟨gb432, 0, none⟩ = some (.int .i64 x433000_3) := (blk_cell BK432.out 0).trans rfl; have hcz94_1 : w91.cell? ⟨gb432, 1, none⟩ = some (.int .i64 x433001_3) := (blk_cell BK432.out 1).trans rfl; have hcz94_2 : w91.cell? ⟨gb432, 2, none⟩ = some (.string x433002_3) := (blk_cell BK432.out 2).trans rfl; have hfz94_0 := blk_frozen BK432.out 0; have hfz94_1 := blk_frozen BK432.out 1; have hfz94_2 := blk_frozen BK432.out 2; have hnb95 := NB431_0.out; have hnc95 := NB0_431.out; have hcz96_0 : w91.cell? ⟨gb431, 0, none⟩ = some (.int .i64 0) := (blk_cell BK431.out 0).trans rfl; have hcz96_1 : w91.cell? ⟨gb431, 1, none⟩ = some (.int .i64 0) := (blk_cell BK431.out 1).trans rfl; have hcz96_2 : w91.cell? ⟨gb431, 2, none⟩ = some (.string (⟨#[]⟩ : ByteArray)) := (blk_cell BK431.out 2).trans rfl; have hfz96_0 := blk_frozen BK431.out 0; have hfz96_1 := blk_frozen BK431.out 1; have hfz96_2 := blk_frozen BK431.out 2))
                refine bodyPost_ret (results_cell_row rfl _ _ gb431 28 #[.int .i64 x433000_3, .int .i64 x433001_3, .string (x433002_3 ++ (⟨#[65]⟩ : ByteArray))] (0, 0) _ rfl (by (with_reducible repeat (first | refine blk_drewN ?_ _ | refine blk_drew ?_ | refine blk_alloc ?_ _)); refine blk_put (cs := #[.int .i64 x433000_3, .int .i64 x433001_3, .string (⟨#[]⟩ : ByteArray)]) ?_ 2 _ rfl; (with_reducible repeat (first | refine blk_drewN ?_ _ | refine blk_drew ?_ | refine blk_alloc ?_ _)); refine blk_put (cs := #[.int .i64 x433000_3, .int .i64 0, .string (⟨#[]⟩ : ByteArray)]) ?_ 1 _ rfl; (with_reducible repeat (first | refine blk_drewN ?_ _ | refine blk_drew ?_ | refine blk_alloc ?_ _)); refine blk_put (cs := #[.int .i64 0, .int .i64 0, .string (⟨#[]⟩ : ByteArray)]) ?_ 0 _ rfl; (with_reducible repeat (first | refine blk_drewN ?_ _ | refine blk_drew ?_ | refine blk_alloc ?_ _)); refine blk_far ?_ NB431_432.out _; (with_reducible repeat (first | refine blk_drewN ?_ _ | refine blk_drew ?_ | refine blk_alloc ?_ _)); exact BK431.out) Try.underlying28 rfl (by kernel_rfl)) rfl ?_
                exact ⟨by first | rfl | (simp [errW_none, errW_some] <;> rfl) | (simp [*, errW_none, errW_some] <;> rfl), by repeat (first | (with_reducible first | exact HI0.out | apply IsS140.alloc | apply IsS140.drewN | apply IsS140.drew | apply IsS140.set_1 | refine IsS140.far ?_ NB0_431.out _ | refine IsS140.far ?_ NB0_432.out _) | exact HI0.out), by repeat (first | (with_reducible first | exact HB.out | apply below_alloc | apply pw_below_drewN | apply below_drew1 | refine below_set ?_ (IsS140.ge HI0.out) | refine below_set ?_ GE431.out | refine below_set ?_ GE432.out) | exact HB.out), by repeat (first | (with_reducible first | exact HK.out | apply KeepBut.set_ | apply keep_drewN | apply keep_drew | apply keep_alloc | refine keep_far ?_ GW431.out _ | refine keep_far ?_ GW432.out _) | exact HK.out)⟩
              · rw [if_neg c89] at H
                exact absurd H (by simp)
      · replace c60 := Bool.eq_false_iff.mpr c60
        subst c60
        have H1 : (some (x433000_3, x433001_3, x433002_3, t455)) = some (r1, r2, r3, r4) := by rw [if_neg (show ¬ (false = true) by decide)] at H; exact H
        clear H
        have H := H1
        clear H1
        simp only [Option.some.injEq, Prod.mk.injEq] at H
        obtain ⟨rfl, rfl, rfl, rfl⟩ := H
        go_wp2_with (first | ((with_reducible refine gate_callee (f := 111) rfl ?_); refine goesL_ (some 54) rfl rfl Try.func111 (by kernel_rfl) rfl #[.pointer (some ⟨g, 0, none⟩), .int .i64 a1] rfl (by (try simp only [List.map_toArray, List.map_cons, List.map_nil]); first | done | rfl | (simp only [List.length_drop, List.length_take]; rfl)) ?_; (with_reducible refine (spec_l20Rd_odd.calls kj3 g s0_0 x1001_3 a1 false t455 w0 _ ?side1 ?side2 A59.out).mono ?_); (case side1 => repeat (first | (with_reducible first | exact HI0.out | apply IsS140.alloc | apply IsS140.drewN | apply IsS140.drew | apply IsS140.set_1 | refine IsS140.far ?_ NB0_431.out _ | refine IsS140.far ?_ NB0_432.out _) | exact HI0.out)); (case side2 => repeat (first | (with_reducible first | exact HB.out | apply below_alloc | apply pw_below_drewN | apply below_drew1 | refine below_set ?_ (IsS140.ge HI0.out) | refine below_set ?_ GE431.out | refine below_set ?_ GE432.out) | exact HB.out)); rintro e w97 ⟨rfl, hi, hb, hk⟩; refine ⟨_, rfl, ?_⟩; have n0_ := Aside0.mk (KeepBut.blk hk (g' := gb431) (o := .cells #[.int .i64 0, .int .i64 0, .string (⟨#[]⟩ : ByteArray)] 28 (0, 0)) (by (with_reducible repeat (first | refine blk_drewN ?_ _ | refine blk_drew ?_ | refine blk_alloc ?_ _)); exact BK431.out) NB431_0.out (by simp)); have n1_ := Aside0.mk (KeepBut.blk hk (g' := gb432) (o := .cells #[.int .i64 x433000_3, .int .i64 x433001_3, .string x433002_3] 28 (0, 0)) (by (with_reducible repeat (first | refine blk_drewN ?_ _ | refine blk_drew ?_ | refine blk_alloc ?_ _)); exact BK432.out) NB432_0.out (by simp)); have n2_ := Aside0.mk (KeepBut.trans (by repeat (first | (with_reducible first | exact HK.out | apply KeepBut.set_ | apply keep_drewN | apply keep_drew | apply keep_alloc | refine keep_far ?_ GW431.out _ | refine keep_far ?_ GW432.out _) | exact HK.out)) hk (.inl rfl)); have n3_ := Aside0.mk (hb); have n4_ := Aside0.mk (hi); clear BK431; clear BK432; clear HK; clear HB; clear HI0; have BK431 := n0_; have BK432 := n1_; have HK := n2_; have HB := n3_; have HI0 := n4_; clear n0_ n1_ n2_ n3_ n4_; (try clear hb); (try clear hb2); (try clear hk); (try clear hi); have hnb98 := NB432_431.out; have hnc98 := NB431_432.out; have hnb99 := NB432_0.out; have hnc99 := NB0_432.out; have hcz100_0 : w97.cell? ⟨gb432, 0, none⟩ = some (.int .i64 x433000_3) := (blk_cell BK432.out 0).trans rfl; have hcz100_1 : w97.cell? ⟨gb432, 1, none⟩ = some (.int .i64 x433001_3) := (blk_cell BK432.out 1).trans rfl; have hcz100_2 : w97.cell? ⟨gb432, 2, none⟩ = some (.string x433002_3) := (blk_cell BK432.out 2).trans rfl; have hfz100_0 := blk_frozen BK432.out 0; have hfz100_1 := blk_frozen BK432.out 1; have hfz100_2 := blk_frozen BK432.out 2; have hnb101 := NB431_0.out; have hnc101 := NB0_431.out; have hcz102_0 : w97.cell? ⟨gb431, 0, none⟩ = some (.int .i64 0) := (blk_cell BK431.out 0).trans rfl; have hcz102_1 : w97.cell? ⟨gb431, 1, none⟩ = some (.int .i64 0) := (blk_cell BK431.out 1).trans rfl; have hcz102_2 : w97.cell? ⟨gb431, 2, none⟩ = some (.string (⟨#[]⟩ : ByteArray)) := (blk_cell BK431.out 2).trans rfl; have hfz102_0 := blk_frozen BK431.out 0; have hfz102_1 := blk_frozen BK431.out 1; have hfz102_2 := blk_frozen BK431.out 2))
        refine bodyPost_ret (results_cell_row rfl _ _ gb431 28 #[.int .i64 x433000_3, .int .i64 x433001_3, .string x433002_3] (0, 0) _ rfl (by (with_reducible repeat (first | refine blk_drewN ?_ _ | refine blk_drew ?_ | refine blk_alloc ?_ _)); refine blk_put (cs := #[.int .i64 x433000_3, .int .i64 x433001_3, .string (⟨#[]⟩ : ByteArray)]) ?_ 2 _ rfl; (with_reducible repeat (first | refine blk_drewN ?_ _ | refine blk_drew ?_ | refine blk_alloc ?_ _)); refine blk_put (cs := #[.int .i64 x433000_3, .int .i64 0, .string (⟨#[]⟩ : ByteArray)]) ?_ 1 _ rfl; (with_reducible repeat (first | refine blk_drewN ?_ _ | refine blk_drew ?_ | refine blk_alloc ?_ _)); refine blk_put (cs := #[.int .i64 0, .int .i64 0, .string (⟨#[]⟩ : ByteArray)]) ?_ 0 _ rfl; (with_reducible repeat (first | refine blk_drewN ?_ _ | refine blk_drew ?_ | refine blk_alloc ?_ _)); exact BK431.out) Try.underlying28 rfl (by kernel_rfl)) rfl ?_
        exact ⟨by first | rfl | (simp [errW_none, errW_some] <;> rfl) | (simp [*, errW_none, errW_some] <;> rfl), by repeat (first | (with_reducible first | exact HI0.out | apply IsS140.alloc | apply IsS140.drewN | apply IsS140.drew | apply IsS140.set_1 | refine IsS140.far ?_ NB0_431.out _ | refine IsS140.far ?_ NB0_432.out _) | exact HI0.out), by repeat (first | (with_reducible first | exact HB.out | apply below_alloc | apply pw_below_drewN | apply below_drew1 | refine below_set ?_ (IsS140.ge HI0.out) | refine below_set ?_ GE431.out | refine below_set ?_ GE432.out) | exact HB.out), by repeat (first | (with_reducible first | exact HK.out | apply KeepBut.set_ | apply keep_drewN | apply keep_drew | apply keep_alloc | refine keep_far ?_ GW431.out _ | refine keep_far ?_ GW432.out _) | exact HK.out)⟩
end

end Go.Proofs.Ytokphjnpkaipcaa.X
