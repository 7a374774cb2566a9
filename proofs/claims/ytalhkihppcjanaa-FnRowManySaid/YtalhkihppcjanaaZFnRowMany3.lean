/- Plain functions for the Go functions of this seat, and proofs that each call answers as its plain function does; made by this session's program over the kit's printer. -/
import Derived.Test.YtalhkihppcjanaaUX0
import Derived.Test.YtalhkihppcjanaaZFnRowMany2
namespace Go.Proofs.Ytalhkihppcjanaa.X
open Go.RowKit Go.Proofs.YtalhkihppcjanaaV.PrintWords Go.Proofs.YtalhkihppcjanaaV.PrintLast Go.Proofs.YtalhkihppcjanaaV.PrintMore
attribute [local go_sem] max2_int min2_int max_two min_two max_three min_three max_four min_four   -- for this text's walks alone
set_option linter.unusedVariables false
set_option linter.unusedSimpArgs false

open Go.Proofs.YtalhkihppcjanaaV.PrintWords renaming below_alloc → zU, pw_below_drewN → zV, below_drew1 → zW, blk_drewN → zX, blk_drew → zY, blk_alloc → zZ, blk_frozen → zF, blk_cell → zK, below_step → zG, below_set → zH, below_size → zI, blk_below → zJ
open Go.Proofs.YtalhkihppcjanaaV.PrintWords.Kd renaming R_alloc → zR, R_drewN → zS, R_drew → zT, C_alloc → zQ, C_drewN → zO, C_drew → zP
section
/-! ### spec_l20Like: function 92 -/
def spec_l20Like.j0 : Nat → Bool → List Int → Int → Int → Bool → Option (Int × Int × ByteArray × Int)
 | 0, _, _, _, _, _ => none
 | k + 1, x11, x1000, x1001, x332000, x332001 => if x11 = true then (some (0, 0, (⟨#[]⟩ : ByteArray), x1001)) else (if x332000 = 1 then ((spec_l20Rd_pick.f k x1000 x1001 4).bind fun bt335 => (some (1, bt335.1, (⟨#[]⟩ : ByteArray), bt335.2))) else (if x332000 = 2 then ((some (([(⟨#[]⟩ : ByteArray), (⟨#[97]⟩ : ByteArray), (⟨#[98]⟩ : ByteArray), (⟨#[97, 98]⟩ : ByteArray)] : List ByteArray) : List ByteArray)).bind fun y337 => ((spec_l20Rd_pick.f k x1000 x1001 4).bind fun bt340 => (if 0 ≤ bt340.1 then (if bt340.1 < (y337.length : Int) then (some (2, 0, rdOf ByteArray.empty y337 bt340.1, bt340.2)) else (none)) else (none)))) else ((spec_l20Rd_pick.f k x1000 x1001 2).bind fun bt343 => (some (3, bt343.1, (⟨#[]⟩ : ByteArray), bt343.2)))))
def spec_l20Like.f (k : Nat) (s0_0 : List Int) (s0_1 : Int) (a1_0 : Int) (a1_1 : Bool) : Option (Int × Int × ByteArray × Int) := if a1_1 = true then ((spec_l20Rd_pick.f k s0_0 s0_1 5).bind fun bt333 => (spec_l20Like.j0 k (bt333.1 == 0) s0_0 bt333.2 a1_0 a1_1)) else (spec_l20Like.j0 k false s0_0 s0_1 a1_0 a1_1)
theorem spec_l20Like.mono_l : ∀ k, (∀ y0 y1 y2 y3 y4, LeO (spec_l20Like.j0 k y0 y1 y2 y3 y4) (spec_l20Like.j0 (k + 1) y0 y1 y2 y3 y4))
 | 0 => fun _ _ _ _ _ r h => by simp [spec_l20Like.j0] at h
 | k + 1 => by
  have ih0 := spec_l20Like.mono_l k
  ·
   intro y0 y1 y2 y3 y4
   unfold spec_l20Like.j0
   repeat' first
   | (with_reducible exact ih0 _ _ _ _ _)
   | (with_reducible exact spec_l20Rd_pick.mono _ _ _ _)
   | (with_reducible exact LeO.refl _)
   | (with_reducible exact LeO.none _)
   | (with_reducible refine LeO.ite ?_ ?_)
   | (with_reducible refine LeO.bind ?_ (fun _ => ?_))
   | exact ih0 _ _ _ _ _
   | exact spec_l20Rd_pick.mono _ _ _ _
   | exact LeO.none _
   | refine LeO.ite ?_ ?_
   | refine LeO.bind ?_ (fun _ => ?_)
theorem spec_l20Like.mono : ∀ a0 a1 a2 a3 k, LeO (spec_l20Like.f k a0 a1 a2 a3) (spec_l20Like.f (k + 1) a0 a1 a2 a3) := by
 intro a0 a1 a2 a3 k
 have ih0 := spec_l20Like.mono_l k
 unfold spec_l20Like.f
 repeat' first
   | (with_reducible exact ih0 _ _ _ _ _)
   | (with_reducible exact spec_l20Rd_pick.mono _ _ _ _)
   | (with_reducible exact LeO.refl _)
   | (with_reducible exact LeO.none _)
   | (with_reducible refine LeO.ite ?_ ?_)
   | (with_reducible refine LeO.bind ?_ (fun _ => ?_))
   | exact ih0 _ _ _ _ _
   | exact spec_l20Rd_pick.mono _ _ _ _
   | exact LeO.none _
   | refine LeO.ite ?_ ?_
   | refine LeO.bind ?_ (fun _ => ?_)
set_option maxHeartbeats 8000000 in
set_option maxRecDepth 100000 in
theorem spec_l20Like.calls (k : Nat) (g : Nat) (s0_0 : List Int) (s0_1 : Int) (a1_0 : Int) (a1_1 : Bool) (r1 : Int) (r2 : Int) (r3 : ByteArray) (r4 : Int) (w0 w : World) (hI : IsS111 w0 w g s0_0 s0_1) (hB : Below w0.heap.size w0 w) (h : spec_l20Like.f k s0_0 s0_1 a1_0 a1_1 = some (r1, r2, r3, r4)) :
  Calls Try.prog 92 #[.pointer (some ⟨g, 0, none⟩), .agg #[.int .i64 a1_0, .bool a1_1]] w fun e w' => e = .returned (.agg #[.int .i64 r1, .int .i64 r2, .string r3]) ∧ IsS111 w0 w' g s0_0 r4 ∧ Below w0.heap.size w0 w' ∧ KeepBut w w' g none := by
 have hu113 := Try.underlying113
 have hu83 := Try.underlying83
 have HI0 := zM hI
 have HK := zM (KeepBut.refl w g none)
 have HL := zM hB.size
 clear hI
 have HW0 := zM hB.size
 have HB := zM hB
 clear hB
 have H : (if a1_1 = true then ((spec_l20Rd_pick.f k s0_0 s0_1 5).bind fun bt333 => (spec_l20Like.j0 k (bt333.1 == 0) s0_0 bt333.2 a1_0 a1_1)) else (spec_l20Like.j0 k false s0_0 s0_1 a1_0 a1_1)) = some (r1, r2, r3, r4) := h
 clear h
 have HC3 := zM H
 clear H
 go_enter Try.func92, Try.ntmps92
 go_upto_region 1 with (first | ((with_reducible refine gate_dst (N := 3) rfl ?_); refine box_event ?hg (N := 3) ?hd (cs := #[.int .i64 a1_0, .bool a1_1]) (t := 113) ?hr ?_; (case hd => rfl); (case hg => rfl); (case hr => first | (go_simp; done) | (go_simp; rfl)); intro gb331 hg w4 hbox hb; have n0_ := zM (IsS111.below (by repeat (first | (with_reducible first | exact HI0.out | apply IsS111.alloc | apply IsS111.drewN | apply IsS111.drew | apply IsS111.set_1) | exact HI0.out)) hb); have n1_ := zM (KeepBut.trans (by repeat (first | (with_reducible first | exact HK.out | apply KeepBut.set_ | apply keep_drewN | apply keep_drew | apply keep_alloc) | exact HK.out)) (KeepBut.of_below hb g none) (.inl rfl)); have n2_ := zM (zG (by repeat (first | (with_reducible first | exact HB.out | apply zU | apply zV | apply zW | refine zH ?_ (IsS111.ge HI0.out)) | exact HB.out)) hb); have n3_ := zM (hbox); have n4_ := zM ((by rw [hg]; exact (keep_size (w := w) (g := g) (row := none) (by repeat (first | (with_reducible first | exact HK.out | apply KeepBut.set_ | apply keep_drewN | apply keep_drew | apply keep_alloc) | exact HK.out))) : w.heap.size ≤ gb331)); have n5_ := zM ((Nat.le_trans HW0.out (by rw [hg]; exact (keep_size (w := w) (g := g) (row := none) (by repeat (first | (with_reducible first | exact HK.out | apply KeepBut.set_ | apply keep_drewN | apply keep_drew | apply keep_alloc) | exact HK.out))) : w.heap.size ≤ gb331) : w0.heap.size ≤ gb331)); have n6_ := zM ((by rw [hg]; exact Nat.ne_of_lt (IsS111.lt (show IsS111 w0 _ g s0_0 s0_1 from by repeat (first | (with_reducible first | exact HI0.out | apply IsS111.alloc | apply IsS111.drewN | apply IsS111.drew | apply IsS111.set_1) | exact HI0.out))) : g ≠ gb331)); have n7_ := zM ((by rw [hg]; exact Nat.ne_of_gt (IsS111.lt (show IsS111 w0 _ g s0_0 s0_1 from by repeat (first | (with_reducible first | exact HI0.out | apply IsS111.alloc | apply IsS111.drewN | apply IsS111.drew | apply IsS111.set_1) | exact HI0.out))) : gb331 ≠ g)); clear HI0; clear HK; clear HB; have HI0 := n0_; have HK := n1_; have HB := n2_; have BK331 := n3_; have GW331 := n4_; have GE331 := n5_; have NB0_331 := n6_; have NB331_0 := n7_; clear n0_ n1_ n2_ n3_ n4_ n5_ n6_ n7_; clear hb hbox hg) | ((with_reducible refine gate_dst (N := 4) rfl ?_); refine box_event ?hg (N := 4) ?hd (cs := #[.int .i64 0, .int .i64 0, .string (⟨#[]⟩ : ByteArray)]) (t := 83) ?hr ?_; (case hd => rfl); (case hg => rfl); (case hr => first | (go_simp; done) | (go_simp; rfl)); intro gb332 hg w5 hbox hb; have n0_ := zM (IsS111.below (by repeat (first | (with_reducible first | exact HI0.out | apply IsS111.alloc | apply IsS111.drewN | apply IsS111.drew | apply IsS111.set_1 | refine IsS111.far ?_ NB0_331.out _) | exact HI0.out)) hb); have n1_ := zM (zJ (g := gb331) (o := .cells #[.int .i64 a1_0, .bool a1_1] 113 (0, 0)) (by (with_reducible repeat (first | refine zX ?_ _ | refine zY ?_ | refine zZ ?_ _)); exact BK331.out) hb); have n2_ := zM (KeepBut.trans (by repeat (first | (with_reducible first | exact HK.out | apply KeepBut.set_ | apply keep_drewN | apply keep_drew | apply keep_alloc | refine keep_far ?_ GW331.out _) | exact HK.out)) (KeepBut.of_below hb g none) (.inl rfl)); have n3_ := zM (zG (by repeat (first | (with_reducible first | exact HB.out | apply zU | apply zV | apply zW | refine zH ?_ (IsS111.ge HI0.out) | refine zH ?_ GE331.out) | exact HB.out)) hb); have n4_ := zM (hbox); have n5_ := zM ((by rw [hg]; exact (keep_size (w := w) (g := g) (row := none) (by repeat (first | (with_reducible first | exact HK.out | apply KeepBut.set_ | apply keep_drewN | apply keep_drew | apply keep_alloc | refine keep_far ?_ GW331.out _) | exact HK.out))) : w.heap.size ≤ gb332)); have n6_ := zM ((Nat.le_trans HW0.out (by rw [hg]; exact (keep_size (w := w) (g := g) (row := none) (by repeat (first | (with_reducible first | exact HK.out | apply KeepBut.set_ | apply keep_drewN | apply keep_drew | apply keep_alloc | refine keep_far ?_ GW331.out _) | exact HK.out))) : w.heap.size ≤ gb332) : w0.heap.size ≤ gb332)); have n7_ := zM ((by rw [hg]; exact Nat.ne_of_lt (blk_lt (g := gb331) (o := .cells #[.int .i64 a1_0, .bool a1_1] 113 (0, 0)) (by (with_reducible repeat (first | refine zX ?_ _ | refine zY ?_ | refine zZ ?_ _)); exact BK331.out)) : gb331 ≠ gb332)); have n8_ := zM ((by rw [hg]; exact Nat.ne_of_gt (blk_lt (g := gb331) (o := .cells #[.int .i64 a1_0, .bool a1_1] 113 (0, 0)) (by (with_reducible repeat (first | refine zX ?_ _ | refine zY ?_ | refine zZ ?_ _)); exact BK331.out)) : gb332 ≠ gb331)); have n9_ := zM ((by rw [hg]; exact Nat.ne_of_lt (IsS111.lt (show IsS111 w0 _ g s0_0 s0_1 from by repeat (first | (with_reducible first | exact HI0.out | apply IsS111.alloc | apply IsS111.drewN | apply IsS111.drew | apply IsS111.set_1 | refine IsS111.far ?_ NB0_331.out _) | exact HI0.out))) : g ≠ gb332)); have n10_ := zM ((by rw [hg]; exact Nat.ne_of_gt (IsS111.lt (show IsS111 w0 _ g s0_0 s0_1 from by repeat (first | (with_reducible first | exact HI0.out | apply IsS111.alloc | apply IsS111.drewN | apply IsS111.drew | apply IsS111.set_1 | refine IsS111.far ?_ NB0_331.out _) | exact HI0.out))) : gb332 ≠ g)); clear HI0; clear BK331; clear HK; clear HB; have HI0 := n0_; have BK331 := n1_; have HK := n2_; have HB := n3_; have BK332 := n4_; have GW332 := n5_; have GE332 := n6_; have NB331_332 := n7_; have NB332_331 := n8_; have NB0_332 := n9_; have NB332_0 := n10_; clear n0_ n1_ n2_ n3_ n4_ n5_ n6_ n7_ n8_ n9_ n10_; clear hb hbox hg))
 (try simp only [Act.put, zA, zB, zC])
 go_cut [11] (fun v11 wc => ∃ (kq : Nat) (x11_2 : Bool) (x1001_2 : Int), v11 = .bool x11_2 ∧ Aside0 (spec_l20Like.j0 kq x11_2 s0_0 x1001_2 a1_0 a1_1 = some (r1, r2, r3, r4)) ∧ Aside0 (kq ≤ k) ∧ Aside0 (wc.heap[gb331]? = some (.cells #[.int .i64 a1_0, .bool a1_1] 113 (0, 0))) ∧ Aside0 (wc.heap[gb332]? = some (.cells #[.int .i64 0, .int .i64 0, .string (⟨#[]⟩ : ByteArray)] 83 (0, 0))) ∧ Aside0 (IsS111 w0 wc g s0_0 x1001_2) ∧ Aside0 (KeepBut w wc g none) ∧ Aside0 (Below w0.heap.size w0 wc))
 case first =>
  have H := HC3.out
  clear HC3
  by_cases c6 : a1_1 = true
  ·
   subst c6
   have H1 : ((spec_l20Rd_pick.f k s0_0 s0_1 5).bind fun bt333 => (spec_l20Like.j0 k (bt333.1 == 0) s0_0 bt333.2 a1_0 true)) = some (r1, r2, r3, r4) := by rw [if_pos rfl] at H; exact H
   clear H
   have H := H1
   clear H1
   replace H := Option.bind_eq_some_iff.mp H
   obtain ⟨⟨t333, t334⟩, A70, H⟩ := H
   replace H : (spec_l20Like.j0 k (t333 == 0) s0_0 t334 a1_0 true) = some (r1, r2, r3, r4) := H
   have A7 := zM A70
   clear A70
   have H' := zM H
   clear H
   have hnb8 := NB331_332.out
   have hnc8 := NB332_331.out
   have hnb9 := NB331_0.out
   have hnc9 := NB0_331.out
   have hcz10_0 : w5.cell? ⟨gb331, 0, none⟩ = some (.int .i64 a1_0) := (zK BK331.out 0).trans rfl
   have hcz10_1 : w5.cell? ⟨gb331, 1, none⟩ = some (.bool true) := (zK BK331.out 1).trans rfl
   have hfz10_0 := zF BK331.out 0
   have hfz10_1 := zF BK331.out 1
   go_wp2_with (first | (go_at_call 70; (with_reducible refine (spec_l20Rd_pick.calls k g s0_0 s0_1 5 t333 t334 w0 _ ?side1 ?side2 A7.out).mono ?_); (case side1 => repeat (first | (with_reducible first | exact HI0.out | apply IsS111.alloc | apply IsS111.drewN | apply IsS111.drew | apply IsS111.set_1 | refine IsS111.far ?_ NB0_331.out _ | refine IsS111.far ?_ NB0_332.out _) | exact HI0.out)); (case side2 => repeat (first | (with_reducible first | exact HB.out | apply zU | apply zV | apply zW | refine zH ?_ (IsS111.ge HI0.out) | refine zH ?_ GE331.out | refine zH ?_ GE332.out) | exact HB.out)); rintro e w11 ⟨rfl, hi, hb, hk⟩; have n0_ := zM (KeepBut.blk hk (g' := gb331) (o := .cells #[.int .i64 a1_0, .bool true] 113 (0, 0)) (by (with_reducible repeat (first | refine zX ?_ _ | refine zY ?_ | refine zZ ?_ _)); exact BK331.out) NB331_0.out (by simp)); have n1_ := zM (KeepBut.blk hk (g' := gb332) (o := .cells #[.int .i64 0, .int .i64 0, .string (⟨#[]⟩ : ByteArray)] 83 (0, 0)) (by (with_reducible repeat (first | refine zX ?_ _ | refine zY ?_ | refine zZ ?_ _)); exact BK332.out) NB332_0.out (by simp)); have n2_ := zM (KeepBut.trans (by repeat (first | (with_reducible first | exact HK.out | apply KeepBut.set_ | apply keep_drewN | apply keep_drew | apply keep_alloc | refine keep_far ?_ GW331.out _ | refine keep_far ?_ GW332.out _) | exact HK.out)) hk (.inl rfl)); have n3_ := zM (hb); have n4_ := zM (hi); clear BK331; clear BK332; clear HK; clear HB; clear HI0; have BK331 := n0_; have BK332 := n1_; have HK := n2_; have HB := n3_; have HI0 := n4_; clear n0_ n1_ n2_ n3_ n4_; (try clear hb); (try clear hb2); (try clear hk); (try clear hi)))
   go_meet
   case rel => exact ⟨_, ((t333 == 0)), (t334), (by first | rfl | (simp; done) | (simp [*]; done)), H', ⟨by first | omega | exact Nat.le_refl _⟩, ⟨by (with_reducible repeat (first | refine zX ?_ _ | refine zY ?_ | refine zZ ?_ _)); exact BK331.out⟩, ⟨by (with_reducible repeat (first | refine zX ?_ _ | refine zY ?_ | refine zZ ?_ _)); exact BK332.out⟩, ⟨by repeat (first | (with_reducible first | exact HI0.out | apply IsS111.alloc | apply IsS111.drewN | apply IsS111.drew | apply IsS111.set_1 | refine IsS111.far ?_ NB0_331.out _ | refine IsS111.far ?_ NB0_332.out _) | exact HI0.out)⟩, ⟨by repeat (first | (with_reducible first | exact HK.out | apply KeepBut.set_ | apply keep_drewN | apply keep_drew | apply keep_alloc | refine keep_far ?_ GW331.out _ | refine keep_far ?_ GW332.out _) | exact HK.out)⟩, ⟨by repeat (first | (with_reducible first | exact HB.out | apply zU | apply zV | apply zW | refine zH ?_ (IsS111.ge HI0.out) | refine zH ?_ GE331.out | refine zH ?_ GE332.out) | exact HB.out)⟩⟩
  ·
   replace c6 := Bool.eq_false_iff.mpr c6
   subst c6
   have H1 : (spec_l20Like.j0 k false s0_0 s0_1 a1_0 false) = some (r1, r2, r3, r4) := by rw [if_neg (show ¬ (false = true) by decide)] at H; exact H
   clear H
   have H := H1
   clear H1
   have H' := zM H
   clear H
   have hnb12 := NB331_332.out
   have hnc12 := NB332_331.out
   have hnb13 := NB331_0.out
   have hnc13 := NB0_331.out
   have hcz14_0 : w5.cell? ⟨gb331, 0, none⟩ = some (.int .i64 a1_0) := (zK BK331.out 0).trans rfl
   have hcz14_1 : w5.cell? ⟨gb331, 1, none⟩ = some (.bool false) := (zK BK331.out 1).trans rfl
   have hfz14_0 := zF BK331.out 0
   have hfz14_1 := zF BK331.out 1
   go_wp2
   go_meet
   case rel => exact ⟨_, (false), (s0_1), (by first | rfl | (simp; done) | (simp [*]; done)), H', ⟨by first | omega | exact Nat.le_refl _⟩, ⟨by (with_reducible repeat (first | refine zX ?_ _ | refine zY ?_ | refine zZ ?_ _)); exact BK331.out⟩, ⟨by (with_reducible repeat (first | refine zX ?_ _ | refine zY ?_ | refine zZ ?_ _)); exact BK332.out⟩, ⟨by repeat (first | (with_reducible first | exact HI0.out | apply IsS111.alloc | apply IsS111.drewN | apply IsS111.drew | apply IsS111.set_1 | refine IsS111.far ?_ NB0_331.out _ | refine IsS111.far ?_ NB0_332.out _) | exact HI0.out)⟩, ⟨by repeat (first | (with_reducible first | exact HK.out | apply KeepBut.set_ | apply keep_drewN | apply keep_drew | apply keep_alloc | refine keep_far ?_ GW331.out _ | refine keep_far ?_ GW332.out _) | exact HK.out)⟩, ⟨by repeat (first | (with_reducible first | exact HB.out | apply zU | apply zV | apply zW | refine zH ?_ (IsS111.ge HI0.out) | refine zH ?_ GE331.out | refine zH ?_ GE332.out) | exact HB.out)⟩⟩
 case rest =>
  clear HC3
  try clear c1
  try clear p2
  try clear c6
  try clear c8
  try clear c9
  try clear c12
  try clear c13
  try clear hcz10_0
  try clear hcz10_1
  try clear hcz14_0
  try clear hcz14_1
  try clear hfz10_0
  try clear hfz10_1
  try clear hfz14_0
  try clear hfz14_1
  obtain ⟨kq, x11_2, x1001_2, rfl, HA, HJ2, BK331, BK332, HI0, HK, HB⟩ := hcut
  cases kq with
  | zero => exact absurd HA.out (by simp [spec_l20Like.j0])
  | succ kj2 =>
   have H := HA.out
   clear HA
   simp only [spec_l20Like.j0] at H
   by_cases c15 : x11_2 = true
   ·
    subst c15
    have H1 : (some (0, 0, (⟨#[]⟩ : ByteArray), x1001_2)) = some (r1, r2, r3, r4) := by rw [if_pos rfl] at H; exact H
    clear H
    have H := H1
    clear H1
    simp only [Option.some.injEq, Prod.mk.injEq] at H
    obtain ⟨rfl, rfl, rfl, rfl⟩ := H
    have hnb16 := NB332_331.out
    have hnc16 := NB331_332.out
    have hnb17 := NB332_0.out
    have hnc17 := NB0_332.out
    have hcz18_0 : wc.cell? ⟨gb332, 0, none⟩ = some (.int .i64 0) := (zK BK332.out 0).trans rfl
    have hcz18_1 : wc.cell? ⟨gb332, 1, none⟩ = some (.int .i64 0) := (zK BK332.out 1).trans rfl
    have hcz18_2 : wc.cell? ⟨gb332, 2, none⟩ = some (.string (⟨#[]⟩ : ByteArray)) := (zK BK332.out 2).trans rfl
    have hfz18_0 := zF BK332.out 0
    have hfz18_1 := zF BK332.out 1
    have hfz18_2 := zF BK332.out 2
    go_wp2
    refine bodyPost_ret (results_cell_row rfl _ _ gb332 83 #[.int .i64 0, .int .i64 0, .string (⟨#[]⟩ : ByteArray)] (0, 0) _ rfl (by (with_reducible repeat (first | refine zX ?_ _ | refine zY ?_ | refine zZ ?_ _)); refine blk_put (cs := #[.int .i64 0, .int .i64 0, .string (⟨#[]⟩ : ByteArray)]) ?_ 2 _ rfl; (with_reducible repeat (first | refine zX ?_ _ | refine zY ?_ | refine zZ ?_ _)); refine blk_put (cs := #[.int .i64 0, .int .i64 0, .string (⟨#[]⟩ : ByteArray)]) ?_ 1 _ rfl; (with_reducible repeat (first | refine zX ?_ _ | refine zY ?_ | refine zZ ?_ _)); refine blk_put (cs := #[.int .i64 0, .int .i64 0, .string (⟨#[]⟩ : ByteArray)]) ?_ 0 _ rfl; (with_reducible repeat (first | refine zX ?_ _ | refine zY ?_ | refine zZ ?_ _)); exact BK332.out) Try.underlying83 rfl (by kernel_rfl)) rfl ?_
    exact ⟨by first | rfl | (simp [errW_none, errW_some] <;> rfl) | (simp [*, errW_none, errW_some] <;> rfl), by repeat (first | (with_reducible first | exact HI0.out | apply IsS111.alloc | apply IsS111.drewN | apply IsS111.drew | apply IsS111.set_1 | refine IsS111.far ?_ NB0_331.out _ | refine IsS111.far ?_ NB0_332.out _) | exact HI0.out), by repeat (first | (with_reducible first | exact HB.out | apply zU | apply zV | apply zW | refine zH ?_ (IsS111.ge HI0.out) | refine zH ?_ GE331.out | refine zH ?_ GE332.out) | exact HB.out), by repeat (first | (with_reducible first | exact HK.out | apply KeepBut.set_ | apply keep_drewN | apply keep_drew | apply keep_alloc | refine keep_far ?_ GW331.out _ | refine keep_far ?_ GW332.out _) | exact HK.out)⟩
   ·
    replace c15 := Bool.eq_false_iff.mpr c15
    subst c15
    have H1 : (if a1_0 = 1 then ((spec_l20Rd_pick.f kj2 s0_0 x1001_2 4).bind fun bt335 => (some (1, bt335.1, (⟨#[]⟩ : ByteArray), bt335.2))) else (if a1_0 = 2 then ((some (([(⟨#[]⟩ : ByteArray), (⟨#[97]⟩ : ByteArray), (⟨#[98]⟩ : ByteArray), (⟨#[97, 98]⟩ : ByteArray)] : List ByteArray) : List ByteArray)).bind fun y337 => ((spec_l20Rd_pick.f kj2 s0_0 x1001_2 4).bind fun bt340 => (if 0 ≤ bt340.1 then (if bt340.1 < (y337.length : Int) then (some (2, 0, rdOf ByteArray.empty y337 bt340.1, bt340.2)) else (none)) else (none)))) else ((spec_l20Rd_pick.f kj2 s0_0 x1001_2 2).bind fun bt343 => (some (3, bt343.1, (⟨#[]⟩ : ByteArray), bt343.2))))) = some (r1, r2, r3, r4) := by rw [if_neg (show ¬ (false = true) by decide)] at H; exact H
    clear H
    have H := H1
    clear H1
    by_cases c19 : a1_0 = 1
    ·
     rw [if_pos c19] at H
     have c19b0 : (a1_0 == 1) = true := beq_iff_eq.mpr c19
     have c19b1 : (a1_0 != 1) = false := bne_eq_false_iff_eq.mpr c19
     clear c19
     replace H := Option.bind_eq_some_iff.mp H
     obtain ⟨⟨t335, t336⟩, A200, H⟩ := H
     replace H : (some (1, t335, (⟨#[]⟩ : ByteArray), t336)) = some (r1, r2, r3, r4) := H
     have A20 := zM A200
     clear A200
     simp only [Option.some.injEq, Prod.mk.injEq] at H
     obtain ⟨rfl, rfl, rfl, rfl⟩ := H
     have hnb21 := NB331_332.out
     have hnc21 := NB332_331.out
     have hnb22 := NB331_0.out
     have hnc22 := NB0_331.out
     have hcz23_0 : wc.cell? ⟨gb331, 0, none⟩ = some (.int .i64 a1_0) := (zK BK331.out 0).trans rfl
     have hcz23_1 : wc.cell? ⟨gb331, 1, none⟩ = some (.bool a1_1) := (zK BK331.out 1).trans rfl
     have hfz23_0 := zF BK331.out 0
     have hfz23_1 := zF BK331.out 1
     go_wp2_with (first | ((with_reducible refine gate_callee (f := 70) rfl ?_); refine goesL_ (some 18) rfl rfl Try.func70 (by kernel_rfl) rfl #[.pointer (some ⟨g, 0, none⟩), .int .i64 4] rfl (by (try simp only [List.map_toArray, List.map_cons, List.map_nil]); first | done | rfl | (simp only [List.length_drop, List.length_take]; rfl)) ?_; (with_reducible refine (spec_l20Rd_pick.calls kj2 g s0_0 x1001_2 4 t335 t336 w0 _ ?side1 ?side2 A20.out).mono ?_); (case side1 => repeat (first | (with_reducible first | exact HI0.out | apply IsS111.alloc | apply IsS111.drewN | apply IsS111.drew | apply IsS111.set_1 | refine IsS111.far ?_ NB0_331.out _ | refine IsS111.far ?_ NB0_332.out _) | exact HI0.out)); (case side2 => repeat (first | (with_reducible first | exact HB.out | apply zU | apply zV | apply zW | refine zH ?_ (IsS111.ge HI0.out) | refine zH ?_ GE331.out | refine zH ?_ GE332.out) | exact HB.out)); rintro e w24 ⟨rfl, hi, hb, hk⟩; refine ⟨_, rfl, ?_⟩; have n0_ := zM (KeepBut.blk hk (g' := gb331) (o := .cells #[.int .i64 a1_0, .bool a1_1] 113 (0, 0)) (by (with_reducible repeat (first | refine zX ?_ _ | refine zY ?_ | refine zZ ?_ _)); exact BK331.out) NB331_0.out (by simp)); have n1_ := zM (KeepBut.blk hk (g' := gb332) (o := .cells #[.int .i64 0, .int .i64 0, .string (⟨#[]⟩ : ByteArray)] 83 (0, 0)) (by (with_reducible repeat (first | refine zX ?_ _ | refine zY ?_ | refine zZ ?_ _)); exact BK332.out) NB332_0.out (by simp)); have n2_ := zM (KeepBut.trans (by repeat (first | (with_reducible first | exact HK.out | apply KeepBut.set_ | apply keep_drewN | apply keep_drew | apply keep_alloc | refine keep_far ?_ GW331.out _ | refine keep_far ?_ GW332.out _) | exact HK.out)) hk (.inl rfl)); have n3_ := zM (hb); have n4_ := zM (hi); clear BK331; clear BK332; clear HK; clear HB; clear HI0; have BK331 := n0_; have BK332 := n1_; have HK := n2_; have HB := n3_; have HI0 := n4_; clear n0_ n1_ n2_ n3_ n4_; (try clear hb); (try clear hb2); (try clear hk); (try clear hi); have hnb25 := NB332_0.out; have hnc25 := NB0_332.out; have hcz26_0 : w24.cell? ⟨gb332, 0, none⟩ = some (.int .i64 0) := (zK BK332.out 0).trans rfl; have hcz26_1 : w24.cell? ⟨gb332, 1, none⟩ = some (.int .i64 0) := (zK BK332.out 1).trans rfl; have hcz26_2 : w24.cell? ⟨gb332, 2, none⟩ = some (.string (⟨#[]⟩ : ByteArray)) := (zK BK332.out 2).trans rfl; have hfz26_0 := zF BK332.out 0; have hfz26_1 := zF BK332.out 1; have hfz26_2 := zF BK332.out 2))
     refine bodyPost_ret (results_cell_row rfl _ _ gb332 83 #[.int .i64 1, .int .i64 t335, .string (⟨#[]⟩ : ByteArray)] (0, 0) _ rfl (by (with_reducible repeat (first | refine zX ?_ _ | refine zY ?_ | refine zZ ?_ _)); refine blk_put (cs := #[.int .i64 1, .int .i64 t335, .string (⟨#[]⟩ : ByteArray)]) ?_ 2 _ rfl; (with_reducible repeat (first | refine zX ?_ _ | refine zY ?_ | refine zZ ?_ _)); refine blk_put (cs := #[.int .i64 1, .int .i64 0, .string (⟨#[]⟩ : ByteArray)]) ?_ 1 _ rfl; (with_reducible repeat (first | refine zX ?_ _ | refine zY ?_ | refine zZ ?_ _)); refine blk_put (cs := #[.int .i64 0, .int .i64 0, .string (⟨#[]⟩ : ByteArray)]) ?_ 0 _ rfl; (with_reducible repeat (first | refine zX ?_ _ | refine zY ?_ | refine zZ ?_ _)); exact BK332.out) Try.underlying83 rfl (by kernel_rfl)) rfl ?_
     exact ⟨by first | rfl | (simp [errW_none, errW_some] <;> rfl) | (simp [*, errW_none, errW_some] <;> rfl), by repeat (first | (with_reducible first | exact HI0.out | apply IsS111.alloc | apply IsS111.drewN | apply IsS111.drew | apply IsS111.set_1 | refine IsS111.far ?_ NB0_331.out _ | refine IsS111.far ?_ NB0_332.out _) | exact HI0.out), by repeat (first | (with_reducible first | exact HB.out | apply zU | apply zV | apply zW | refine zH ?_ (IsS111.ge HI0.out) | refine zH ?_ GE331.out | refine zH ?_ GE332.out) | exact HB.out), by repeat (first | (with_reducible first | exact HK.out | apply KeepBut.set_ | apply keep_drewN | apply keep_drew | apply keep_alloc | refine keep_far ?_ GW331.out _ | refine keep_far ?_ GW332.out _) | exact HK.out)⟩
    ·
     rw [if_neg c19] at H
     have c19b0 : (a1_0 == 1) = false := beq_eq_false_iff_ne.mpr c19
     have c19b1 : (a1_0 != 1) = true := bne_iff_ne.mpr c19
     by_cases c27 : a1_0 = 2
     ·
      rw [if_pos c27] at H
      have c27b0 : (a1_0 == 2) = true := beq_iff_eq.mpr c27
      have c27b1 : (a1_0 != 2) = false := bne_eq_false_iff_eq.mpr c27
      clear c27
      obtain ⟨y337, hy337⟩ : ∃ y_ : List ByteArray, y_ = (([(⟨#[]⟩ : ByteArray), (⟨#[97]⟩ : ByteArray), (⟨#[98]⟩ : ByteArray), (⟨#[97, 98]⟩ : ByteArray)] : List ByteArray)) := ⟨_, rfl⟩
      replace H : ((spec_l20Rd_pick.f kj2 s0_0 x1001_2 4).bind fun bt340 => (if 0 ≤ bt340.1 then (if bt340.1 < (y337.length : Int) then (some (2, 0, rdOf ByteArray.empty y337 bt340.1, bt340.2)) else (none)) else (none))) = some (r1, r2, r3, r4) := by first | (rw [hy337]; with_reducible exact H) | (have H2_ := (Option.bind_some _ _).symm.trans H; rw [hy337]; with_reducible exact H2_) | (have H2_ := (Option.bind_some _ _).symm.trans H; with_reducible exact H2_) | with_reducible exact H | (rw [hy337]; exact H) | exact H
      have Ny337 := zM hy337
      clear hy337
      replace H := Option.bind_eq_some_iff.mp H
      obtain ⟨⟨t340, t341⟩, A280, H⟩ := H
      replace H : (if 0 ≤ t340 then (if t340 < (y337.length : Int) then (some (2, 0, rdOf ByteArray.empty y337 t340, t341)) else (none)) else (none)) = some (r1, r2, r3, r4) := H
      have A28 := zM A280
      clear A280
      by_cases c29 : 0 ≤ t340
      ·
       rw [if_pos c29] at H
       have c29b0 : decide (0 ≤ t340) = true := decide_eq_true c29
       clear c29
       by_cases c30 : t340 < (y337.length : Int)
       ·
        rw [if_pos c30] at H
        have c30b0 : decide (t340 < (y337.length : Int)) = true := decide_eq_true c30
        clear c30
        simp only [Option.some.injEq, Prod.mk.injEq] at H
        obtain ⟨rfl, rfl, rfl, rfl⟩ := H
        have hnb31 := NB331_332.out
        have hnc31 := NB332_331.out
        have hnb32 := NB331_0.out
        have hnc32 := NB0_331.out
        have hcz33_0 : wc.cell? ⟨gb331, 0, none⟩ = some (.int .i64 a1_0) := (zK BK331.out 0).trans rfl
        have hcz33_1 : wc.cell? ⟨gb331, 1, none⟩ = some (.bool a1_1) := (zK BK331.out 1).trans rfl
        have hfz33_0 := zF BK331.out 0
        have hfz33_1 := zF BK331.out 1
        go_wp2_with (first | ((with_reducible refine gate_dst (N := 22) rfl ?_); refine Kd.R_lit Kd.string _ 9 ?hg (N := 22) ?hd (xs := ([(⟨#[]⟩ : ByteArray), (⟨#[97]⟩ : ByteArray), (⟨#[98]⟩ : ByteArray), (⟨#[97, 98]⟩ : ByteArray)] : List ByteArray)) (inner := [.string (⟨#[]⟩ : ByteArray), .string (⟨#[97]⟩ : ByteArray), .string (⟨#[98]⟩ : ByteArray), .string (⟨#[97, 98]⟩ : ByteArray)]) (ok := fun _ => True) (okp := fun _ => True) ?hr ?hp (fun _ hk => hk) trivial (Below.refl _ _) (Nat.le_refl _) (by simp) ?_; (case hd => rfl); (case hg => rfl); (case hr => first | (go_simp; done) | (go_simp; rfl)); (case hp => exact (Reps.one (show Kd.M Kd.string _ _ _ (⟨#[]⟩ : ByteArray) [.string (⟨#[]⟩ : ByteArray)] from rfl) (Reps.one (show Kd.M Kd.string _ _ _ (⟨#[97]⟩ : ByteArray) [.string (⟨#[97]⟩ : ByteArray)] from rfl) (Reps.one (show Kd.M Kd.string _ _ _ (⟨#[98]⟩ : ByteArray) [.string (⟨#[98]⟩ : ByteArray)] from rfl) (Reps.one (show Kd.M Kd.string _ _ _ (⟨#[97, 98]⟩ : ByteArray) [.string (⟨#[97, 98]⟩ : ByteArray)] from rfl) (Reps.none _ _)))))); intro v338 w34 ho35 hb hg_ hnew_; clear hg_ hnew_; (first | rw [← Ny337.out] at ho35 | (simp only [Int.reduceToNat] at ho35; rw [← Ny337.out] at ho35)); have n0_ := zM (Kd.R_lower ho35 (keep_size (w := w) (g := g) (row := none) (by repeat (first | (with_reducible first | exact HK.out | apply KeepBut.set_ | apply keep_drewN | apply keep_drew | apply keep_alloc | refine keep_far ?_ GW331.out _ | refine keep_far ?_ GW332.out _) | exact HK.out)))); have n1_ := zM (zJ (g := gb331) (o := .cells #[.int .i64 a1_0, .bool a1_1] 113 (0, 0)) (by (with_reducible repeat (first | refine zX ?_ _ | refine zY ?_ | refine zZ ?_ _)); exact BK331.out) hb); have n2_ := zM (zJ (g := gb332) (o := .cells #[.int .i64 0, .int .i64 0, .string (⟨#[]⟩ : ByteArray)] 83 (0, 0)) (by (with_reducible repeat (first | refine zX ?_ _ | refine zY ?_ | refine zZ ?_ _)); exact BK332.out) hb); have n3_ := zM (IsS111.below (by repeat (first | (with_reducible first | exact HI0.out | apply IsS111.alloc | apply IsS111.drewN | apply IsS111.drew | apply IsS111.set_1 | refine IsS111.far ?_ NB0_331.out _ | refine IsS111.far ?_ NB0_332.out _) | exact HI0.out)) hb); have n4_ := zM (KeepBut.trans (by repeat (first | (with_reducible first | exact HK.out | apply KeepBut.set_ | apply keep_drewN | apply keep_drew | apply keep_alloc | refine keep_far ?_ GW331.out _ | refine keep_far ?_ GW332.out _) | exact HK.out)) (KeepBut.of_below hb g none) (.inl rfl)); have n5_ := zM (zG (by repeat (first | (with_reducible first | exact HB.out | apply zU | apply zV | apply zW | refine zH ?_ (IsS111.ge HI0.out) | refine zH ?_ GE331.out | refine zH ?_ GE332.out) | exact HB.out)) hb); clear BK331; clear BK332; clear HI0; clear HK; clear HB; have HO339 := n0_; have BK331 := n1_; have BK332 := n2_; have HI0 := n3_; have HK := n4_; have HB := n5_; clear n0_ n1_ n2_ n3_ n4_ n5_; clear hb ho35) | ((with_reducible refine gate_callee (f := 70) rfl ?_); refine goesL_ (some 24) rfl rfl Try.func70 (by kernel_rfl) rfl #[.pointer (some ⟨g, 0, none⟩), .int .i64 4] rfl (by (try simp only [List.map_toArray, List.map_cons, List.map_nil]); first | done | rfl | (simp only [List.length_drop, List.length_take]; rfl)) ?_; (with_reducible refine (spec_l20Rd_pick.calls kj2 g s0_0 x1001_2 4 t340 t341 w0 _ ?side1 ?side2 A28.out).mono ?_); (case side1 => repeat (first | (with_reducible first | exact HI0.out | apply IsS111.alloc | apply IsS111.drewN | apply IsS111.drew | apply IsS111.set_1 | refine IsS111.far ?_ NB0_331.out _ | refine IsS111.far ?_ NB0_332.out _) | exact HI0.out)); (case side2 => repeat (first | (with_reducible first | exact HB.out | apply zU | apply zV | apply zW | refine zH ?_ (IsS111.ge HI0.out) | refine zH ?_ GE331.out | refine zH ?_ GE332.out) | exact HB.out)); rintro e w36 ⟨rfl, hi, hb, hk⟩; refine ⟨_, rfl, ?_⟩; have n0_ := zM (KeepBut.blk hk (g' := gb331) (o := .cells #[.int .i64 a1_0, .bool a1_1] 113 (0, 0)) (by (with_reducible repeat (first | refine zX ?_ _ | refine zY ?_ | refine zZ ?_ _)); exact BK331.out) NB331_0.out (by simp)); have n1_ := zM (KeepBut.blk hk (g' := gb332) (o := .cells #[.int .i64 0, .int .i64 0, .string (⟨#[]⟩ : ByteArray)] 83 (0, 0)) (by (with_reducible repeat (first | refine zX ?_ _ | refine zY ?_ | refine zZ ?_ _)); exact BK332.out) NB332_0.out (by simp)); have n2_ := zM (Kd.R_mono (Kd.R_keep (IsS111.apart (show IsS111 w0 _ g s0_0 x1001_2 from by repeat (first | (with_reducible first | exact HI0.out | apply IsS111.alloc | apply IsS111.drewN | apply IsS111.drew | apply IsS111.set_1 | refine IsS111.far ?_ NB0_331.out _ | refine IsS111.far ?_ NB0_332.out _) | exact HI0.out)) (by (with_reducible repeat (first | apply zR | apply zS | apply zT)); exact HO339.out) (by decide)) hk (fun _ h => h.2)) (fun _ h => h.1)); have n3_ := zM (KeepBut.trans (by repeat (first | (with_reducible first | exact HK.out | apply KeepBut.set_ | apply keep_drewN | apply keep_drew | apply keep_alloc | refine keep_far ?_ GW331.out _ | refine keep_far ?_ GW332.out _) | exact HK.out)) hk (.inl rfl)); have n4_ := zM (hb); have n5_ := zM (hi); clear BK331; clear BK332; clear HO339; clear HK; clear HB; clear HI0; have BK331 := n0_; have BK332 := n1_; have HO339 := n2_; have HK := n3_; have HB := n4_; have HI0 := n5_; clear n0_ n1_ n2_ n3_ n4_ n5_; (try clear hb); (try clear hb2); (try clear hk); (try clear hi); obtain ⟨Ao37, co37, eo37⟩ := Kd.R_slice HO339.out; subst eo37; have p342 : 0 ≤ (t340 : Int) := zL (by assumption); have q342 : t340 < (y337.length : Int) := zL (by assumption); obtain ⟨ad342, e342, hx342_0⟩ := Kd.at_string (Kd.R_reads' HO339.out).2.2 t340 p342 q342; cases e342; replace p342 := eq_true p342; replace q342 := eq_true q342; have hnb38 := NB332_0.out; have hnc38 := NB0_332.out; have hcz39_0 : w36.cell? ⟨gb332, 0, none⟩ = some (.int .i64 0) := (zK BK332.out 0).trans rfl; have hcz39_1 : w36.cell? ⟨gb332, 1, none⟩ = some (.int .i64 0) := (zK BK332.out 1).trans rfl; have hcz39_2 : w36.cell? ⟨gb332, 2, none⟩ = some (.string (⟨#[]⟩ : ByteArray)) := (zK BK332.out 2).trans rfl; have hfz39_0 := zF BK332.out 0; have hfz39_1 := zF BK332.out 1; have hfz39_2 := zF BK332.out 2))
        refine bodyPost_ret (results_cell_row rfl _ _ gb332 83 #[.int .i64 2, .int .i64 0, .string (rdOf ByteArray.empty y337 t340)] (0, 0) _ rfl (by (with_reducible repeat (first | refine zX ?_ _ | refine zY ?_ | refine zZ ?_ _)); refine blk_put (cs := #[.int .i64 2, .int .i64 0, .string (⟨#[]⟩ : ByteArray)]) ?_ 2 _ rfl; (with_reducible repeat (first | refine zX ?_ _ | refine zY ?_ | refine zZ ?_ _)); refine blk_put (cs := #[.int .i64 2, .int .i64 0, .string (⟨#[]⟩ : ByteArray)]) ?_ 1 _ rfl; (with_reducible repeat (first | refine zX ?_ _ | refine zY ?_ | refine zZ ?_ _)); refine blk_put (cs := #[.int .i64 0, .int .i64 0, .string (⟨#[]⟩ : ByteArray)]) ?_ 0 _ rfl; (with_reducible repeat (first | refine zX ?_ _ | refine zY ?_ | refine zZ ?_ _)); exact BK332.out) Try.underlying83 rfl (by kernel_rfl)) rfl ?_
        exact ⟨by first | rfl | (simp [errW_none, errW_some] <;> rfl) | (simp [*, errW_none, errW_some] <;> rfl), by repeat (first | (with_reducible first | exact HI0.out | apply IsS111.alloc | apply IsS111.drewN | apply IsS111.drew | apply IsS111.set_1 | refine IsS111.far ?_ NB0_331.out _ | refine IsS111.far ?_ NB0_332.out _) | exact HI0.out), by repeat (first | (with_reducible first | exact HB.out | apply zU | apply zV | apply zW | refine zH ?_ (IsS111.ge HI0.out) | refine zH ?_ GE331.out | refine zH ?_ GE332.out) | exact HB.out), by repeat (first | (with_reducible first | exact HK.out | apply KeepBut.set_ | apply keep_drewN | apply keep_drew | apply keep_alloc | refine keep_far ?_ GW331.out _ | refine keep_far ?_ GW332.out _) | exact HK.out)⟩
       ·
        rw [if_neg c30] at H
        exact absurd H (by simp)
      ·
       rw [if_neg c29] at H
       exact absurd H (by simp)
     ·
      rw [if_neg c27] at H
      have c27b0 : (a1_0 == 2) = false := beq_eq_false_iff_ne.mpr c27
      have c27b1 : (a1_0 != 2) = true := bne_iff_ne.mpr c27
      replace H := Option.bind_eq_some_iff.mp H
      obtain ⟨⟨t343, t344⟩, A400, H⟩ := H
      replace H : (some (3, t343, (⟨#[]⟩ : ByteArray), t344)) = some (r1, r2, r3, r4) := H
      have A40 := zM A400
      clear A400
      simp only [Option.some.injEq, Prod.mk.injEq] at H
      obtain ⟨rfl, rfl, rfl, rfl⟩ := H
      have hnb41 := NB331_332.out
      have hnc41 := NB332_331.out
      have hnb42 := NB331_0.out
      have hnc42 := NB0_331.out
      have hcz43_0 : wc.cell? ⟨gb331, 0, none⟩ = some (.int .i64 a1_0) := (zK BK331.out 0).trans rfl
      have hcz43_1 : wc.cell? ⟨gb331, 1, none⟩ = some (.bool a1_1) := (zK BK331.out 1).trans rfl
      have hfz43_0 := zF BK331.out 0
      have hfz43_1 := zF BK331.out 1
      go_wp2_with (first | ((with_reducible refine gate_callee (f := 70) rfl ?_); refine goesL_ (some 29) rfl rfl Try.func70 (by kernel_rfl) rfl #[.pointer (some ⟨g, 0, none⟩), .int .i64 2] rfl (by (try simp only [List.map_toArray, List.map_cons, List.map_nil]); first | done | rfl | (simp only [List.length_drop, List.length_take]; rfl)) ?_; (with_reducible refine (spec_l20Rd_pick.calls kj2 g s0_0 x1001_2 2 t343 t344 w0 _ ?side1 ?side2 A40.out).mono ?_); (case side1 => repeat (first | (with_reducible first | exact HI0.out | apply IsS111.alloc | apply IsS111.drewN | apply IsS111.drew | apply IsS111.set_1 | refine IsS111.far ?_ NB0_331.out _ | refine IsS111.far ?_ NB0_332.out _) | exact HI0.out)); (case side2 => repeat (first | (with_reducible first | exact HB.out | apply zU | apply zV | apply zW | refine zH ?_ (IsS111.ge HI0.out) | refine zH ?_ GE331.out | refine zH ?_ GE332.out) | exact HB.out)); rintro e w44 ⟨rfl, hi, hb, hk⟩; refine ⟨_, rfl, ?_⟩; have n0_ := zM (KeepBut.blk hk (g' := gb331) (o := .cells #[.int .i64 a1_0, .bool a1_1] 113 (0, 0)) (by (with_reducible repeat (first | refine zX ?_ _ | refine zY ?_ | refine zZ ?_ _)); exact BK331.out) NB331_0.out (by simp)); have n1_ := zM (KeepBut.blk hk (g' := gb332) (o := .cells #[.int .i64 0, .int .i64 0, .string (⟨#[]⟩ : ByteArray)] 83 (0, 0)) (by (with_reducible repeat (first | refine zX ?_ _ | refine zY ?_ | refine zZ ?_ _)); exact BK332.out) NB332_0.out (by simp)); have n2_ := zM (KeepBut.trans (by repeat (first | (with_reducible first | exact HK.out | apply KeepBut.set_ | apply keep_drewN | apply keep_drew | apply keep_alloc | refine keep_far ?_ GW331.out _ | refine keep_far ?_ GW332.out _) | exact HK.out)) hk (.inl rfl)); have n3_ := zM (hb); have n4_ := zM (hi); clear BK331; clear BK332; clear HK; clear HB; clear HI0; have BK331 := n0_; have BK332 := n1_; have HK := n2_; have HB := n3_; have HI0 := n4_; clear n0_ n1_ n2_ n3_ n4_; (try clear hb); (try clear hb2); (try clear hk); (try clear hi); have hnb45 := NB332_0.out; have hnc45 := NB0_332.out; have hcz46_0 : w44.cell? ⟨gb332, 0, none⟩ = some (.int .i64 0) := (zK BK332.out 0).trans rfl; have hcz46_1 : w44.cell? ⟨gb332, 1, none⟩ = some (.int .i64 0) := (zK BK332.out 1).trans rfl; have hcz46_2 : w44.cell? ⟨gb332, 2, none⟩ = some (.string (⟨#[]⟩ : ByteArray)) := (zK BK332.out 2).trans rfl; have hfz46_0 := zF BK332.out 0; have hfz46_1 := zF BK332.out 1; have hfz46_2 := zF BK332.out 2))
      refine bodyPost_ret (results_cell_row rfl _ _ gb332 83 #[.int .i64 3, .int .i64 t343, .string (⟨#[]⟩ : ByteArray)] (0, 0) _ rfl (by (with_reducible repeat (first | refine zX ?_ _ | refine zY ?_ | refine zZ ?_ _)); refine blk_put (cs := #[.int .i64 3, .int .i64 t343, .string (⟨#[]⟩ : ByteArray)]) ?_ 2 _ rfl; (with_reducible repeat (first | refine zX ?_ _ | refine zY ?_ | refine zZ ?_ _)); refine blk_put (cs := #[.int .i64 3, .int .i64 0, .string (⟨#[]⟩ : ByteArray)]) ?_ 1 _ rfl; (with_reducible repeat (first | refine zX ?_ _ | refine zY ?_ | refine zZ ?_ _)); refine blk_put (cs := #[.int .i64 0, .int .i64 0, .string (⟨#[]⟩ : ByteArray)]) ?_ 0 _ rfl; (with_reducible repeat (first | refine zX ?_ _ | refine zY ?_ | refine zZ ?_ _)); exact BK332.out) Try.underlying83 rfl (by kernel_rfl)) rfl ?_
      exact ⟨by first | rfl | (simp [errW_none, errW_some] <;> rfl) | (simp [*, errW_none, errW_some] <;> rfl), by repeat (first | (with_reducible first | exact HI0.out | apply IsS111.alloc | apply IsS111.drewN | apply IsS111.drew | apply IsS111.set_1 | refine IsS111.far ?_ NB0_331.out _ | refine IsS111.far ?_ NB0_332.out _) | exact HI0.out), by repeat (first | (with_reducible first | exact HB.out | apply zU | apply zV | apply zW | refine zH ?_ (IsS111.ge HI0.out) | refine zH ?_ GE331.out | refine zH ?_ GE332.out) | exact HB.out), by repeat (first | (with_reducible first | exact HK.out | apply KeepBut.set_ | apply keep_drewN | apply keep_drew | apply keep_alloc | refine keep_far ?_ GW331.out _ | refine keep_far ?_ GW332.out _) | exact HK.out)⟩
end

end Go.Proofs.Ytalhkihppcjanaa.X
