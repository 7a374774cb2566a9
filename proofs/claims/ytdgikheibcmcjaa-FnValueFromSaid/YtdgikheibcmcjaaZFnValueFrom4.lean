/- Plain functions for the Go functions of this seat, and proofs that each call answers as its plain function does; made by this session's program over the kit's printer. -/
import Derived.Test.YtdgikheibcmcjaaUX0
import Derived.Test.YtdgikheibcmcjaaZFnValueFrom3
namespace Go.Proofs.Ytdgikheibcmcjaa.X
open Go.RowKit Go.Proofs.YtdgikheibcmcjaaV.PrintWords Go.Proofs.YtdgikheibcmcjaaV.PrintLast Go.Proofs.YtdgikheibcmcjaaV.PrintMore
attribute [local go_sem] max2_int min2_int max_two min_two max_three min_three max_four min_four   -- for this text's walks alone
set_option linter.unusedVariables false
set_option linter.unusedSimpArgs false

open Go.Proofs.YtdgikheibcmcjaaV.PrintWords renaming below_alloc → zU, pw_below_drewN → zV, below_drew1 → zW, blk_drewN → zX, blk_drew → zY, blk_alloc → zZ, blk_frozen → zF, blk_cell → zK, below_step → zG, below_set → zH, below_size → zI, blk_below → zJ
open Go.Proofs.YtdgikheibcmcjaaV.PrintWords.Kd renaming R_alloc → zR, R_drewN → zS, R_drew → zT, C_alloc → zQ, C_drewN → zO, C_drew → zP
section
/-! ### impl_ValueFrom: function 26 -/
mutual
def impl_ValueFrom.j0 : Nat → List Int → Int → Bool → Int → Int → ByteArray → Option (Int × Int × ByteArray × Int)
 | 0, _, _, _, _, _, _ => none
 | k + 1, x0, x5, x15, x258000, x258001, x258002 => if x15 = true then (if 1 < (x0.length : Int) then (if 2 < (x0.length : Int) then ((impl_Value_ok.f x258000 (wrap64 ((wrap64 ((wrap64 ((wrap64 (rd x0 1)) * 256)) + (wrap64 (rd x0 2)))) - 10000)) x258002).bind fun t260 => (if t260 = true then (some (x258000, wrap64 ((wrap64 ((wrap64 ((wrap64 (rd x0 1)) * 256)) + (wrap64 (rd x0 2)))) - 10000), x258002, 3)) else (some (0, 0, (⟨#[]⟩ : ByteArray), 0)))) else (none)) else (none)) else (if x258000 = 2 then (if (x0.length : Int) > 1 then (if 1 < (x0.length : Int) then (impl_ValueFrom.j1 k x0 x5 (decide ((x0.length : Int) ≥ (wrap64 (2 + (wrap64 (rd x0 1)))))) x258000 x258001 x258002) else (none)) else (impl_ValueFrom.j1 k x0 x5 false x258000 x258001 x258002)) else (impl_ValueFrom.j1 k x0 x5 false x258000 x258001 x258002))
def impl_ValueFrom.j1 : Nat → List Int → Int → Bool → Int → Int → ByteArray → Option (Int × Int × ByteArray × Int)
 | 0, _, _, _, _, _, _ => none
 | k + 1, x0, x5, x36, x258000, x258001, x258002 => if x36 = true then (if 1 < (x0.length : Int) then (if 2 ≤ (wrap64 (2 + (wrap64 (rd x0 1)))) then (if (wrap64 (2 + (wrap64 (rd x0 1)))) ≤ (x0.length : Int) then ((impl_Value_ok.f x258000 x258001 (strOfNums ((x0.take ((wrap64 (2 + (wrap64 (rd x0 1)))) : Int).toNat).drop 2))).bind fun t264 => (if t264 = true then (some (x258000, x258001, strOfNums ((x0.take ((wrap64 (2 + (wrap64 (rd x0 1)))) : Int).toNat).drop 2), wrap64 (2 + (wrap64 (rd x0 1))))) else (some (0, 0, (⟨#[]⟩ : ByteArray), 0)))) else (none)) else (none)) else (none)) else (if x258000 = 3 then (impl_ValueFrom.j2 k x0 x5 (decide ((x0.length : Int) > 1)) x258000 x258001 x258002) else (impl_ValueFrom.j2 k x0 x5 false x258000 x258001 x258002))
def impl_ValueFrom.j2 : Nat → List Int → Int → Bool → Int → Int → ByteArray → Option (Int × Int × ByteArray × Int)
 | 0, _, _, _, _, _, _ => none
 | k + 1, x0, x5, x65, x258000, x258001, x258002 => if x65 = true then (if 1 < (x0.length : Int) then ((impl_Value_ok.f x258000 (wrap64 (rd x0 1)) x258002).bind fun t266 => (if t266 = true then (some (x258000, wrap64 (rd x0 1), x258002, 2)) else (some (0, 0, (⟨#[]⟩ : ByteArray), 0)))) else (none)) else (if x258000 = 0 then ((impl_Value_ok.f x258000 x258001 x258002).bind fun t267 => (if t267 = true then (some (x258000, x258001, x258002, x5)) else (some (0, 0, (⟨#[]⟩ : ByteArray), 0)))) else (some (0, 0, (⟨#[]⟩ : ByteArray), 0)))
end
def impl_ValueFrom.f (k : Nat) (l0 : List Int) : Option (Int × Int × ByteArray × Int) := if (l0.length : Int) = 0 then (some (0, 0, (⟨#[]⟩ : ByteArray), 0)) else (if 0 < (l0.length : Int) then (if (wrap64 (rd l0 0)) = 1 then (impl_ValueFrom.j0 k l0 1 (decide ((l0.length : Int) > 2)) (wrap64 (rd l0 0)) 0 (⟨#[]⟩ : ByteArray)) else (impl_ValueFrom.j0 k l0 1 false (wrap64 (rd l0 0)) 0 (⟨#[]⟩ : ByteArray))) else (none))
theorem impl_ValueFrom.mono_l : ∀ k, (∀ y0 y1 y2 y3 y4 y5, LeO (impl_ValueFrom.j0 k y0 y1 y2 y3 y4 y5) (impl_ValueFrom.j0 (k + 1) y0 y1 y2 y3 y4 y5)) ∧ (∀ y0 y1 y2 y3 y4 y5, LeO (impl_ValueFrom.j1 k y0 y1 y2 y3 y4 y5) (impl_ValueFrom.j1 (k + 1) y0 y1 y2 y3 y4 y5)) ∧ (∀ y0 y1 y2 y3 y4 y5, LeO (impl_ValueFrom.j2 k y0 y1 y2 y3 y4 y5) (impl_ValueFrom.j2 (k + 1) y0 y1 y2 y3 y4 y5))
 | 0 => ⟨fun _ _ _ _ _ _ r h => by simp [impl_ValueFrom.j0] at h, fun _ _ _ _ _ _ r h => by simp [impl_ValueFrom.j1] at h, fun _ _ _ _ _ _ r h => by simp [impl_ValueFrom.j2] at h⟩
 | k + 1 => by
  obtain ⟨ih0, ih1, ih2⟩ := impl_ValueFrom.mono_l k
  refine ⟨?_, ?_, ?_⟩
  ·
   intro y0 y1 y2 y3 y4 y5
   unfold impl_ValueFrom.j0
   repeat' first
   | (with_reducible exact ih0 _ _ _ _ _ _)
   | (with_reducible exact ih1 _ _ _ _ _ _)
   | (with_reducible exact ih2 _ _ _ _ _ _)
   | (with_reducible exact LeO.refl _)
   | (with_reducible exact LeO.none _)
   | (with_reducible refine LeO.ite ?_ ?_)
   | (with_reducible refine LeO.bind ?_ (fun _ => ?_))
   | exact ih0 _ _ _ _ _ _
   | exact ih1 _ _ _ _ _ _
   | exact ih2 _ _ _ _ _ _
   | exact LeO.none _
   | refine LeO.ite ?_ ?_
   | refine LeO.bind ?_ (fun _ => ?_)
  ·
   intro y0 y1 y2 y3 y4 y5
   unfold impl_ValueFrom.j1
   repeat' first
   | (with_reducible exact ih0 _ _ _ _ _ _)
   | (with_reducible exact ih1 _ _ _ _ _ _)
   | (with_reducible exact ih2 _ _ _ _ _ _)
   | (with_reducible exact LeO.refl _)
   | (with_reducible exact LeO.none _)
   | (with_reducible refine LeO.ite ?_ ?_)
   | (with_reducible refine LeO.bind ?_ (fun _ => ?_))
   | exact ih0 _ _ _ _ _ _
   | exact ih1 _ _ _ _ _ _
   | exact ih2 _ _ _ _ _ _
   | exact LeO.none _
   | refine LeO.ite ?_ ?_
   | refine LeO.bind ?_ (fun _ => ?_)
  ·
   intro y0 y1 y2 y3 y4 y5
   unfold impl_ValueFrom.j2
   repeat' first
   | (with_reducible exact ih0 _ _ _ _ _ _)
   | (with_reducible exact ih1 _ _ _ _ _ _)
   | (with_reducible exact ih2 _ _ _ _ _ _)
   | (with_reducible exact LeO.refl _)
   | (with_reducible exact LeO.none _)
   | (with_reducible refine LeO.ite ?_ ?_)
   | (with_reducible refine LeO.bind ?_ (fun _ => ?_))
   | exact ih0 _ _ _ _ _ _
   | exact ih1 _ _ _ _ _ _
   | exact ih2 _ _ _ _ _ _
   | exact LeO.none _
   | refine LeO.ite ?_ ?_
   | refine LeO.bind ?_ (fun _ => ?_)
theorem impl_ValueFrom.mono : ∀ a0 k, LeO (impl_ValueFrom.f k a0) (impl_ValueFrom.f (k + 1) a0) := by
 intro a0 k
 obtain ⟨ih0, ih1, ih2⟩ := impl_ValueFrom.mono_l k
 unfold impl_ValueFrom.f
 repeat' first
   | (with_reducible exact ih0 _ _ _ _ _ _)
   | (with_reducible exact ih1 _ _ _ _ _ _)
   | (with_reducible exact ih2 _ _ _ _ _ _)
   | (with_reducible exact LeO.refl _)
   | (with_reducible exact LeO.none _)
   | (with_reducible refine LeO.ite ?_ ?_)
   | (with_reducible refine LeO.bind ?_ (fun _ => ?_))
   | exact ih0 _ _ _ _ _ _
   | exact ih1 _ _ _ _ _ _
   | exact ih2 _ _ _ _ _ _
   | exact LeO.none _
   | refine LeO.ite ?_ ?_
   | refine LeO.bind ?_ (fun _ => ?_)
def impl_ValueFrom.T5 : Bool × List (List Nat × List Nat) := (true, [([], []), ([0], [0]), ([1], [1]), ([2], [2]), ([3], [3]), ([], []), ([5], [5]), ([6], [6]), ([7], [7]), ([4, 8], [4, 8]), ([9], [9]), ([0, 1, 2, 3, 4, 5, 6, 7, 8, 9, 10], []), ([11, 10, 0, 1, 2, 3, 4, 5, 6, 7, 8, 9, 10], [10, 11]), ([12, 0, 1, 2, 3, 4, 5, 6, 7, 8, 9, 10, 11, 12], [])])
def impl_ValueFrom.B5 : List Nat := [0, 1, 3, 7, 15, 0, 32, 96, 224, 511, 1023, 2047, 4095, 8191]
theorem impl_ValueFrom.tab5 : rtab .any (opsOf Try.f26 5) = impl_ValueFrom.T5 := by kernel_rfl
theorem impl_ValueFrom.bits5 : waitsOk impl_ValueFrom.T5.2 impl_ValueFrom.B5 = true := by kernel_rfl
set_option maxHeartbeats 8000000 in
set_option maxRecDepth 100000 in
theorem impl_ValueFrom.calls (k : Nat) (A0 : Option Addr) (c0 : Nat) (l0 : List Int) (r1 : Int) (r2 : Int) (r3 : ByteArray) (r4 : Int) (w : World) (hr0 : Kd.C (Kd.int .u8) w A0 l0.length l0) (hc0 : l0.length ≤ c0) (h : impl_ValueFrom.f k l0 = some (r1, r2, r3, r4)) :
  Calls Try.prog 26 #[.slice A0 l0.length c0] w fun e w' => e = .returned (.tuple #[.agg #[.int .i64 r1, .int .i64 r2, .string r3], .int .i64 r4]) ∧ Below w.heap.size w w' := by
 have hu27 := Try.underlying27
 have HR0 := zM hr0
 have HC0 := zM hc0
 clear hr0 hc0
 have HB := zM (Below.refl w.heap.size w)
 have H : (if (l0.length : Int) = 0 then (some (0, 0, (⟨#[]⟩ : ByteArray), 0)) else (if 0 < (l0.length : Int) then (if (wrap64 (rd l0 0)) = 1 then (impl_ValueFrom.j0 k l0 1 (decide ((l0.length : Int) > 2)) (wrap64 (rd l0 0)) 0 (⟨#[]⟩ : ByteArray)) else (impl_ValueFrom.j0 k l0 1 false (wrap64 (rd l0 0)) 0 (⟨#[]⟩ : ByteArray))) else (none))) = some (r1, r2, r3, r4) := h
 clear h
 by_cases c2 : (l0.length : Int) = 0
 ·
  rw [if_pos c2] at H
  have c2b0 : ((l0.length : Int) == 0) = true := beq_iff_eq.mpr c2
  have c2b1 : ((l0.length : Int) != 0) = false := bne_eq_false_iff_eq.mpr c2
  clear c2
  simp only [Option.some.injEq, Prod.mk.injEq] at H
  obtain ⟨rfl, rfl, rfl, rfl⟩ := H
  go_enter Try.func26, Try.ntmps26
  go_wp2_with (first | ((with_reducible refine gate_dst (N := 2) rfl ?_); (try (refine gate_guard (by rfl) ?_; dsimp only)); refine box_event ?hg (N := 2) ?hd (cs := #[.int .i64 0, .int .i64 0, .string (⟨#[]⟩ : ByteArray)]) (t := 27) ?hr ?_; (case hd => rfl); (case hg => rfl); (case hr => first | (go_simp; done) | (go_simp; rfl)); intro gb255 hg w3 hbox hb; have n0_ := zM (zG (by repeat (first | (with_reducible first | exact HB.out | apply zU | apply zV | apply zW) | exact HB.out)) hb); have n1_ := zM (hbox); have n2_ := zM ((by rw [hg]; exact (zI (by repeat (first | (with_reducible first | exact HB.out | apply zU | apply zV | apply zW) | exact HB.out))) : w.heap.size ≤ gb255)); have n3_ := zM ((by rw [hg]; exact (zI (by repeat (first | (with_reducible first | exact HB.out | apply zU | apply zV | apply zW) | exact HB.out))) : w.heap.size ≤ gb255)); clear HB; have HB := n0_; have BK255 := n1_; have GW255 := n2_; have GE255 := n3_; clear n0_ n1_ n2_ n3_; clear hb hbox hg; have hcz4_0 : w3.cell? ⟨gb255, 0, none⟩ = some (.int .i64 0) := (zK BK255.out 0).trans rfl; have hcz4_1 : w3.cell? ⟨gb255, 1, none⟩ = some (.int .i64 0) := (zK BK255.out 1).trans rfl; have hcz4_2 : w3.cell? ⟨gb255, 2, none⟩ = some (.string (⟨#[]⟩ : ByteArray)) := (zK BK255.out 2).trans rfl; have hfz4_0 := zF BK255.out 0; have hfz4_1 := zF BK255.out 1; have hfz4_2 := zF BK255.out 2))
  refine bodyPost_ret (results_ct rfl _ _ gb255 27 #[.int .i64 0, .int .i64 0, .string (⟨#[]⟩ : ByteArray)] (0, 0) _ rfl (by (with_reducible repeat (first | refine zX ?_ _ | refine zY ?_ | refine zZ ?_ _)); refine blk_put (cs := #[.int .i64 0, .int .i64 0, .string (⟨#[]⟩ : ByteArray)]) ?_ 2 _ rfl; (with_reducible repeat (first | refine zX ?_ _ | refine zY ?_ | refine zZ ?_ _)); refine blk_put (cs := #[.int .i64 0, .int .i64 0, .string (⟨#[]⟩ : ByteArray)]) ?_ 1 _ rfl; (with_reducible repeat (first | refine zX ?_ _ | refine zY ?_ | refine zZ ?_ _)); refine blk_put (cs := #[.int .i64 0, .int .i64 0, .string (⟨#[]⟩ : ByteArray)]) ?_ 0 _ rfl; (with_reducible repeat (first | refine zX ?_ _ | refine zY ?_ | refine zZ ?_ _)); exact BK255.out) Try.underlying27 rfl (by kernel_rfl)) rfl ?_
  exact ⟨by first | rfl | (simp [errW_none, errW_some] <;> rfl) | (simp [*, errW_none, errW_some] <;> rfl), by repeat (first | (with_reducible first | exact HB.out | apply zU | apply zV | apply zW | refine zH ?_ GE255.out) | exact HB.out)⟩
 ·
  rw [if_neg c2] at H
  have c2b0 : ((l0.length : Int) == 0) = false := beq_eq_false_iff_ne.mpr c2
  have c2b1 : ((l0.length : Int) != 0) = true := bne_iff_ne.mpr c2
  have c2b2 : ¬ (l0 = []) := fun h_ => c2 (by rw [h_]; rfl)
  by_cases c5 : 0 < (l0.length : Int)
  ·
   rw [if_pos c5] at H
   have c5b0 : decide (0 < (l0.length : Int)) = true := decide_eq_true c5
   have c5b1 : decide (0 < l0.length) = true := decide_eq_true (by omega)
   clear c5
   have HC6 := zM H
   clear H
   go_enter Try.func26, Try.ntmps26
   go_upto_region 4 with (first | ((with_reducible refine gate_dst (N := 2) rfl ?_); (try (refine gate_guard (by rfl) ?_; dsimp only)); refine box_event ?hg (N := 2) ?hd (cs := #[.int .i64 0, .int .i64 0, .string (⟨#[]⟩ : ByteArray)]) (t := 27) ?hr ?_; (case hd => rfl); (case hg => rfl); (case hr => first | (go_simp; done) | (go_simp; rfl)); intro gb255 hg w7 hbox hb; have n0_ := zM (zG (by repeat (first | (with_reducible first | exact HB.out | apply zU | apply zV | apply zW) | exact HB.out)) hb); have n1_ := zM (hbox); have n2_ := zM ((by rw [hg]; exact (zI (by repeat (first | (with_reducible first | exact HB.out | apply zU | apply zV | apply zW) | exact HB.out))) : w.heap.size ≤ gb255)); have n3_ := zM ((by rw [hg]; exact (zI (by repeat (first | (with_reducible first | exact HB.out | apply zU | apply zV | apply zW) | exact HB.out))) : w.heap.size ≤ gb255)); clear HB; have HB := n0_; have BK255 := n1_; have GW255 := n2_; have GE255 := n3_; clear n0_ n1_ n2_ n3_; clear hb hbox hg; have p256 : 0 ≤ (0 : Int) := (by omega); have q256 : 0 < (l0.length : Int) := zL (by assumption); obtain ⟨ad256, e256, hx256_0⟩ := Kd.at_int HR0.out 0 p256 q256; cases e256; have qi256 : (0 < l0.length) = True := eq_true (by omega); (try rw [show ((0 : Int)).toNat = 0 from rfl] at hx256_0); (try rw [Addr.add_zero'] at hx256_0); replace hx256_0 := (HB.out.cell (World.block_lt_of_cell? w _ hx256_0)).trans hx256_0; replace p256 := eq_true p256; replace q256 := eq_true q256) | ((with_reducible refine gate_dst (N := 4) rfl ?_); (try (refine gate_guard (by rfl) ?_; dsimp only)); refine box_event ?hg (N := 4) ?hd (cs := #[.int .i64 0, .int .i64 0, .string (⟨#[]⟩ : ByteArray)]) (t := 27) ?hr ?_; (case hd => rfl); (case hg => rfl); (case hr => first | (go_simp; done) | (go_simp; rfl)); intro gb257 hg w8 hbox hb; have n0_ := zM (zJ (g := gb255) (o := .cells #[.int .i64 0, .int .i64 0, .string (⟨#[]⟩ : ByteArray)] 27 (0, 0)) (by (with_reducible repeat (first | refine zX ?_ _ | refine zY ?_ | refine zZ ?_ _)); exact BK255.out) hb); have n1_ := zM (zG (by repeat (first | (with_reducible first | exact HB.out | apply zU | apply zV | apply zW | refine zH ?_ GE255.out) | exact HB.out)) hb); have n2_ := zM (hbox); have n3_ := zM ((by rw [hg]; exact (zI (by repeat (first | (with_reducible first | exact HB.out | apply zU | apply zV | apply zW | refine zH ?_ GE255.out) | exact HB.out))) : w.heap.size ≤ gb257)); have n4_ := zM ((by rw [hg]; exact (zI (by repeat (first | (with_reducible first | exact HB.out | apply zU | apply zV | apply zW | refine zH ?_ GE255.out) | exact HB.out))) : w.heap.size ≤ gb257)); have n5_ := zM ((by rw [hg]; exact Nat.ne_of_lt (blk_lt (g := gb255) (o := .cells #[.int .i64 0, .int .i64 0, .string (⟨#[]⟩ : ByteArray)] 27 (0, 0)) (by (with_reducible repeat (first | refine zX ?_ _ | refine zY ?_ | refine zZ ?_ _)); exact BK255.out)) : gb255 ≠ gb257)); have n6_ := zM ((by rw [hg]; exact Nat.ne_of_gt (blk_lt (g := gb255) (o := .cells #[.int .i64 0, .int .i64 0, .string (⟨#[]⟩ : ByteArray)] 27 (0, 0)) (by (with_reducible repeat (first | refine zX ?_ _ | refine zY ?_ | refine zZ ?_ _)); exact BK255.out)) : gb257 ≠ gb255)); clear BK255; clear HB; have BK255 := n0_; have HB := n1_; have BK257 := n2_; have GW257 := n3_; have GE257 := n4_; have NB255_257 := n5_; have NB257_255 := n6_; clear n0_ n1_ n2_ n3_ n4_ n5_ n6_; clear hb hbox hg; have hnb9 := NB257_255.out; have hnc9 := NB255_257.out; have hcz10_0 : w8.cell? ⟨gb257, 0, none⟩ = some (.int .i64 0) := (zK BK257.out 0).trans rfl; have hcz10_1 : w8.cell? ⟨gb257, 1, none⟩ = some (.int .i64 0) := (zK BK257.out 1).trans rfl; have hcz10_2 : w8.cell? ⟨gb257, 2, none⟩ = some (.string (⟨#[]⟩ : ByteArray)) := (zK BK257.out 2).trans rfl; have hfz10_0 := zF BK257.out 0; have hfz10_1 := zF BK257.out 1; have hfz10_2 := zF BK257.out 2))
   (try simp only [Act.put, zA, zB, zC])
   go_cut [15] (fun v15 wc => ∃ (kq : Nat) (x15_5 : Bool), v15 = .bool x15_5 ∧ Aside0 (impl_ValueFrom.j0 kq l0 1 x15_5 (wrap64 (rd l0 0)) 0 (⟨#[]⟩ : ByteArray) = some (r1, r2, r3, r4)) ∧ Aside0 (kq ≤ k) ∧ Aside0 (wc.heap[gb255]? = some (.cells #[.int .i64 0, .int .i64 0, .string (⟨#[]⟩ : ByteArray)] 27 (0, 0))) ∧ Aside0 (wc.heap[gb257]? = some (.cells #[.int .i64 (wrap64 (rd l0 0)), .int .i64 0, .string (⟨#[]⟩ : ByteArray)] 27 (0, 0))) ∧ Aside0 (Below w.heap.size w wc))
   case first =>
    have H := HC6.out
    clear HC6
    by_cases c11 : (wrap64 (rd l0 0)) = 1
    ·
     rw [if_pos c11] at H
     have c11b0 : ((wrap64 (rd l0 0)) == 1) = true := beq_iff_eq.mpr c11
     have c11b1 : ((wrap64 (rd l0 0)) != 1) = false := bne_eq_false_iff_eq.mpr c11
     clear c11
     (first | rw [c11b0] | (simp only [i64_w, i32_w]; rw [c11b0]) | skip)
     have H' := zM H
     clear H
     have hnb12 := NB257_255.out
     have hnc12 := NB255_257.out
     have hcz13_0 : w8.cell? ⟨gb257, 0, none⟩ = some (.int .i64 0) := (zK BK257.out 0).trans rfl
     have hcz13_1 : w8.cell? ⟨gb257, 1, none⟩ = some (.int .i64 0) := (zK BK257.out 1).trans rfl
     have hcz13_2 : w8.cell? ⟨gb257, 2, none⟩ = some (.string (⟨#[]⟩ : ByteArray)) := (zK BK257.out 2).trans rfl
     have hfz13_0 := zF BK257.out 0
     have hfz13_1 := zF BK257.out 1
     have hfz13_2 := zF BK257.out 2
     go_wp2
     go_meet
     case rel => exact ⟨_, (decide ((l0.length : Int) > 2)), (by first | rfl | (simp; done) | (simp [*]; done)), H', ⟨by first | omega | exact Nat.le_refl _⟩, ⟨by (with_reducible repeat (first | refine zX ?_ _ | refine zY ?_ | refine zZ ?_ _)); refine blk_far ?_ NB255_257.out _; (with_reducible repeat (first | refine zX ?_ _ | refine zY ?_ | refine zZ ?_ _)); refine blk_far ?_ NB255_257.out _; (with_reducible repeat (first | refine zX ?_ _ | refine zY ?_ | refine zZ ?_ _)); refine blk_far ?_ NB255_257.out _; (with_reducible repeat (first | refine zX ?_ _ | refine zY ?_ | refine zZ ?_ _)); exact BK255.out⟩, ⟨by (with_reducible repeat (first | refine zX ?_ _ | refine zY ?_ | refine zZ ?_ _)); refine blk_put (cs := #[.int .i64 (wrap64 (rd l0 0)), .int .i64 0, .string (⟨#[]⟩ : ByteArray)]) ?_ 2 _ rfl; (with_reducible repeat (first | refine zX ?_ _ | refine zY ?_ | refine zZ ?_ _)); refine blk_put (cs := #[.int .i64 (wrap64 (rd l0 0)), .int .i64 0, .string (⟨#[]⟩ : ByteArray)]) ?_ 1 _ rfl; (with_reducible repeat (first | refine zX ?_ _ | refine zY ?_ | refine zZ ?_ _)); refine blk_put (cs := #[.int .i64 0, .int .i64 0, .string (⟨#[]⟩ : ByteArray)]) ?_ 0 _ rfl; (with_reducible repeat (first | refine zX ?_ _ | refine zY ?_ | refine zZ ?_ _)); exact BK257.out⟩, ⟨by repeat (first | (with_reducible first | exact HB.out | apply zU | apply zV | apply zW | refine zH ?_ GE255.out | refine zH ?_ GE257.out) | exact HB.out)⟩⟩
    ·
     rw [if_neg c11] at H
     have c11b0 : ((wrap64 (rd l0 0)) == 1) = false := beq_eq_false_iff_ne.mpr c11
     have c11b1 : ((wrap64 (rd l0 0)) != 1) = true := bne_iff_ne.mpr c11
     (first | rw [c11b0] | (simp only [i64_w, i32_w]; rw [c11b0]) | skip)
     have H' := zM H
     clear H
     have hnb14 := NB257_255.out
     have hnc14 := NB255_257.out
     have hcz15_0 : w8.cell? ⟨gb257, 0, none⟩ = some (.int .i64 0) := (zK BK257.out 0).trans rfl
     have hcz15_1 : w8.cell? ⟨gb257, 1, none⟩ = some (.int .i64 0) := (zK BK257.out 1).trans rfl
     have hcz15_2 : w8.cell? ⟨gb257, 2, none⟩ = some (.string (⟨#[]⟩ : ByteArray)) := (zK BK257.out 2).trans rfl
     have hfz15_0 := zF BK257.out 0
     have hfz15_1 := zF BK257.out 1
     have hfz15_2 := zF BK257.out 2
     go_wp2
     go_meet
     case rel => exact ⟨_, (false), (by first | rfl | (simp; done) | (simp [*]; done)), H', ⟨by first | omega | exact Nat.le_refl _⟩, ⟨by (with_reducible repeat (first | refine zX ?_ _ | refine zY ?_ | refine zZ ?_ _)); refine blk_far ?_ NB255_257.out _; (with_reducible repeat (first | refine zX ?_ _ | refine zY ?_ | refine zZ ?_ _)); refine blk_far ?_ NB255_257.out _; (with_reducible repeat (first | refine zX ?_ _ | refine zY ?_ | refine zZ ?_ _)); refine blk_far ?_ NB255_257.out _; (with_reducible repeat (first | refine zX ?_ _ | refine zY ?_ | refine zZ ?_ _)); exact BK255.out⟩, ⟨by (with_reducible repeat (first | refine zX ?_ _ | refine zY ?_ | refine zZ ?_ _)); refine blk_put (cs := #[.int .i64 (wrap64 (rd l0 0)), .int .i64 0, .string (⟨#[]⟩ : ByteArray)]) ?_ 2 _ rfl; (with_reducible repeat (first | refine zX ?_ _ | refine zY ?_ | refine zZ ?_ _)); refine blk_put (cs := #[.int .i64 (wrap64 (rd l0 0)), .int .i64 0, .string (⟨#[]⟩ : ByteArray)]) ?_ 1 _ rfl; (with_reducible repeat (first | refine zX ?_ _ | refine zY ?_ | refine zZ ?_ _)); refine blk_put (cs := #[.int .i64 0, .int .i64 0, .string (⟨#[]⟩ : ByteArray)]) ?_ 0 _ rfl; (with_reducible repeat (first | refine zX ?_ _ | refine zY ?_ | refine zZ ?_ _)); exact BK257.out⟩, ⟨by repeat (first | (with_reducible first | exact HB.out | apply zU | apply zV | apply zW | refine zH ?_ GE255.out | refine zH ?_ GE257.out) | exact HB.out)⟩⟩
   case rest =>
    clear HC6
    try clear c1
    try clear c2
    try clear c2b0
    try clear c2b1
    try clear c2b2
    try clear p2
    try clear q2
    try clear hx2
    try clear qi2
    try clear c5
    try clear c5b0
    try clear c5b1
    try clear p6
    try clear c9
    try clear c11
    try clear c11b0
    try clear c11b1
    try clear c12
    try clear c14
    try clear hcz10_0
    try clear hcz10_1
    try clear hcz10_2
    try clear hcz13_0
    try clear hcz13_1
    try clear hcz13_2
    try clear hcz15_0
    try clear hcz15_1
    try clear hcz15_2
    try clear hcz4_0
    try clear hcz4_1
    try clear hcz4_2
    try clear hfz10_0
    try clear hfz10_1
    try clear hfz10_2
    try clear hfz13_0
    try clear hfz13_1
    try clear hfz13_2
    try clear hfz15_0
    try clear hfz15_1
    try clear hfz15_2
    try clear hfz4_0
    try clear hfz4_1
    try clear hfz4_2
    try clear hx256_0
    try clear p256
    try clear q256
    obtain ⟨kq, x15_5, rfl, HA, HJ5, BK255, BK257, HB⟩ := hcut
    cases kq with
    | zero => exact absurd HA.out (by simp [impl_ValueFrom.j0])
    | succ kj5 =>
     have H := HA.out
     clear HA
     simp only [impl_ValueFrom.j0] at H
     by_cases c16 : x15_5 = true
     ·
      subst c16
      have H1 : (if 1 < (l0.length : Int) then (if 2 < (l0.length : Int) then ((impl_Value_ok.f (wrap64 (rd l0 0)) (wrap64 ((wrap64 ((wrap64 ((wrap64 (rd l0 1)) * 256)) + (wrap64 (rd l0 2)))) - 10000)) (⟨#[]⟩ : ByteArray)).bind fun t260 => (if t260 = true then (some ((wrap64 (rd l0 0)), wrap64 ((wrap64 ((wrap64 ((wrap64 (rd l0 1)) * 256)) + (wrap64 (rd l0 2)))) - 10000), (⟨#[]⟩ : ByteArray), 3)) else (some (0, 0, (⟨#[]⟩ : ByteArray), 0)))) else (none)) else (none)) = some (r1, r2, r3, r4) := by rw [if_pos rfl] at H; exact H
      clear H
      have H := H1
      clear H1
      by_cases c17 : 1 < (l0.length : Int)
      ·
       rw [if_pos c17] at H
       have c17b0 : decide (1 < (l0.length : Int)) = true := decide_eq_true c17
       have c17b1 : decide (1 < l0.length) = true := decide_eq_true (by omega)
       clear c17
       by_cases c18 : 2 < (l0.length : Int)
       ·
        rw [if_pos c18] at H
        have c18b0 : decide (2 < (l0.length : Int)) = true := decide_eq_true c18
        have c18b1 : decide (2 < l0.length) = true := decide_eq_true (by omega)
        clear c18
        replace H := Option.bind_eq_some_iff.mp H
        obtain ⟨t260, A190, H⟩ := H
        replace H : (if t260 = true then (some ((wrap64 (rd l0 0)), wrap64 ((wrap64 ((wrap64 ((wrap64 (rd l0 1)) * 256)) + (wrap64 (rd l0 2)))) - 10000), (⟨#[]⟩ : ByteArray), 3)) else (some (0, 0, (⟨#[]⟩ : ByteArray), 0))) = some (r1, r2, r3, r4) := H
        have A19 := zM A190
        clear A190
        by_cases c20 : t260 = true
        ·
         subst c20
         have H1 : (some ((wrap64 (rd l0 0)), wrap64 ((wrap64 ((wrap64 ((wrap64 (rd l0 1)) * 256)) + (wrap64 (rd l0 2)))) - 10000), (⟨#[]⟩ : ByteArray), 3)) = some (r1, r2, r3, r4) := by rw [if_pos rfl] at H; exact H
         clear H
         have H := H1
         clear H1
         simp only [Option.some.injEq, Prod.mk.injEq] at H
         obtain ⟨rfl, rfl, rfl, rfl⟩ := H
         try go_wp2
         have n0_ := zM (zY BK255.out)
         have n1_ := zM (zY BK257.out)
         have n2_ := zM (zW HB.out)
         clear BK255
         clear BK257
         clear HB
         have BK255 := n0_
         have BK257 := n1_
         have HB := n2_
         clear n0_ n1_ n2_
         have p258 : 0 ≤ (1 : Int) := (by omega)
         have q258 : 1 < (l0.length : Int) := zL (by assumption)
         obtain ⟨ad258, e258, hx258_0⟩ := Kd.at_int HR0.out 1 p258 q258
         have hw258_0 := hx258_0
         (try rw [show ((1 : Int)).toNat = 1 from rfl] at hw258_0)
         (try rw [show 1 * 1 = 1 from rfl] at hw258_0)
         (try simp only [Nat.reduceMul, Nat.reduceEqDiff, Go.Addr.add, ↓reduceIte] at hw258_0)
         obtain rfl : ad256 = ad258 := (by injection e258)
         (try simp only [show (1 : Int).toNat = 1 from rfl, Nat.reduceMul, Nat.reduceEqDiff, Go.Addr.add, ↓reduceIte] at hx258_0)
         have qi258 : (1 < l0.length) = True := eq_true (by omega)
         (try rw [show ((1 : Int)).toNat = 1 from rfl] at hx258_0)
         replace hx258_0 := (HB.out.cell (World.block_lt_of_cell? w _ hx258_0)).trans hx258_0
         replace p258 := eq_true p258
         replace q258 := eq_true q258
         have p259 : 0 ≤ (2 : Int) := (by omega)
         have q259 : 2 < (l0.length : Int) := zL (by assumption)
         obtain ⟨ad259, e259, hx259_0⟩ := Kd.at_int HR0.out 2 p259 q259
         have hw259_0 := hx259_0
         (try rw [show ((2 : Int)).toNat = 2 from rfl] at hw259_0)
         (try rw [show 2 * 1 = 2 from rfl] at hw259_0)
         (try simp only [Nat.reduceMul, Nat.reduceEqDiff, Go.Addr.add, ↓reduceIte] at hw259_0)
         obtain rfl : ad256 = ad259 := (by injection e259)
         (try simp only [show (2 : Int).toNat = 2 from rfl, Nat.reduceMul, Nat.reduceEqDiff, Go.Addr.add, ↓reduceIte] at hx259_0)
         have qi259 : (2 < l0.length) = True := eq_true (by omega)
         (try rw [show ((2 : Int)).toNat = 2 from rfl] at hx259_0)
         replace hx259_0 := (HB.out.cell (World.block_lt_of_cell? w _ hx259_0)).trans hx259_0
         replace p259 := eq_true p259
         replace q259 := eq_true q259
         refine start_ (n := 14) (S := fun w' => w'.cell? ⟨ad256.block, ad256.off + 1, none⟩ = some (.int .u8 (rd l0 1)) ∧ w'.cell? ⟨ad256.block, ad256.off + 2, none⟩ = some (.int .u8 (rd l0 2))) (ds := []) #[ff, ff, ff, ff, ff, ff, ff, ff, ff, ff, ff, ff, ff, ff] (by kernel_rfl) rfl rfl ⟨((HB.out.cell (World.block_lt_of_cell? w _ hw258_0)).trans hw258_0), ((HB.out.cell (World.block_lt_of_cell? w _ hw259_0)).trans hw259_0)⟩ (fun hHeld => ?_); refine with_tabW impl_ValueFrom.tab5 impl_ValueFrom.bits5 (fun HT_ HW_ => ?_)
         generalize wc.drew = w21 at BK255 BK257 HB hx258_0 hx259_0 hHeld ⊢
         refine pure_ (i := 0) (N := some 24) (v := ?_) (a' := ?_) #[tt, ff, ff, ff, ff, ff, ff, ff, ff, ff, ff, ff, ff, ff] rfl rfl (any_of HT_.out (by kernel_rfl)) (fun _ _ _ h => h) (Or.inl ⟨by rfl, ?_⟩) ?_ ?_
         rotate_left
         ·
          intro w'
          go_simp
          with_reducible rfl
         rotate_left
         ·
          simp only [Act.put, zA, zB, zC, i64_w, i32_w]
          rfl
         refine pure_ (i := 1) (N := some 25) (v := ?_) (a' := ?_) #[tt, tt, ff, ff, ff, ff, ff, ff, ff, ff, ff, ff, ff, ff] rfl rfl (any_of HT_.out (by kernel_rfl)) (fun _ _ _ h => h) (Or.inl ⟨by rfl, ?_⟩) ?_ ?_
         rotate_left
         ·
          intro w'
          go_simp
          with_reducible rfl
         rotate_left
         ·
          simp only [Act.put, zA, zB, zC, i64_w, i32_w]
          rfl
         refine pure_ (i := 5) (N := some 29) (v := ?_) (a' := ?_) #[tt, tt, ff, ff, ff, tt, ff, ff, ff, ff, ff, ff, ff, ff] rfl rfl (any_of HT_.out (by kernel_rfl)) (fun _ _ _ h => h) (Or.inl ⟨by rfl, ?_⟩) ?_ ?_
         rotate_left
         ·
          intro w'
          go_simp
          with_reducible rfl
         rotate_left
         ·
          simp only [Act.put, zA, zB, zC, i64_w, i32_w]
          rfl
         refine pure_ (i := 6) (N := some 30) (v := ?_) (a' := ?_) #[tt, tt, ff, ff, ff, tt, tt, ff, ff, ff, ff, ff, ff, ff] rfl rfl (any_of HT_.out (by kernel_rfl)) (fun _ _ _ h => h) (Or.inl ⟨by rfl, ?_⟩) ?_ ?_
         rotate_left
         ·
          intro w'
          go_simp
          with_reducible rfl
         rotate_left
         ·
          simp only [Act.put, zA, zB, zC, i64_w, i32_w]
          rfl
         refine take_ (i := 2) (N := some 26) (v := ?_) (a' := ?_) #[tt, tt, tt, ff, ff, tt, tt, ff, ff, ff, ff, ff, ff, ff] rfl rfl (take_ofW HT_.out HW_.out (by kernel_rfl)) (fun _ _ _ h => h) (Or.inl ⟨by rfl, ?_⟩) hHeld ?_ ?_
         rotate_left
         ·
          rintro w' ⟨s0, s1⟩
          go_simp
          with_reducible rfl
         rotate_left
         ·
          simp only [Act.put, zA, zB, zC, i64_w, i32_w]
          rfl
         refine pure_ (i := 3) (N := some 27) (v := ?_) (a' := ?_) #[tt, tt, tt, tt, ff, tt, tt, ff, ff, ff, ff, ff, ff, ff] rfl rfl (any_of HT_.out (by kernel_rfl)) (fun _ _ _ h => h) (Or.inl ⟨by rfl, ?_⟩) ?_ ?_
         rotate_left
         ·
          intro w'
          go_simp
          with_reducible rfl
         rotate_left
         ·
          simp only [Act.put, zA, zB, zC, i64_w, i32_w]
          rfl
         refine pure_ (i := 4) (N := some 28) (v := ?_) (a' := ?_) #[tt, tt, tt, tt, tt, tt, tt, ff, ff, ff, ff, ff, ff, ff] rfl rfl (any_of HT_.out (by kernel_rfl)) (fun _ _ _ h => h) (Or.inl ⟨by rfl, ?_⟩) ?_ ?_
         rotate_left
         ·
          intro w'
          go_simp
          with_reducible rfl
         rotate_left
         ·
          simp only [Act.put, zA, zB, zC, i64_w, i32_w]
          rfl
         refine take_ (i := 7) (N := some 31) (v := ?_) (a' := ?_) #[tt, tt, tt, tt, tt, tt, tt, tt, ff, ff, ff, ff, ff, ff] rfl rfl (take_ofW HT_.out HW_.out (by kernel_rfl)) (fun _ _ _ h => h) (Or.inl ⟨by rfl, ?_⟩) hHeld ?_ ?_
         rotate_left
         ·
          rintro w' ⟨s0, s1⟩
          go_simp
          with_reducible rfl
         rotate_left
         ·
          simp only [Act.put, zA, zB, zC, i64_w, i32_w]
          rfl
         refine pure_ (i := 8) (N := some 32) (v := ?_) (a' := ?_) #[tt, tt, tt, tt, tt, tt, tt, tt, tt, ff, ff, ff, ff, ff] rfl rfl (any_of HT_.out (by kernel_rfl)) (fun _ _ _ h => h) (Or.inl ⟨by rfl, ?_⟩) ?_ ?_
         rotate_left
         ·
          intro w'
          go_simp
          with_reducible rfl
         rotate_left
         ·
          simp only [Act.put, zA, zB, zC, i64_w, i32_w]
          rfl
         refine pure_ (i := 9) (N := some 33) (v := ?_) (a' := ?_) #[tt, tt, tt, tt, tt, tt, tt, tt, tt, tt, ff, ff, ff, ff] rfl rfl (any_of HT_.out (by kernel_rfl)) (fun _ _ _ h => h) (Or.inl ⟨by rfl, ?_⟩) ?_ ?_
         rotate_left
         ·
          intro w'
          go_simp
          with_reducible rfl
         rotate_left
         ·
          simp only [Act.put, zA, zB, zC, i64_w, i32_w]
          rfl
         refine pure_ (i := 10) (N := some 34) (v := ?_) (a' := ?_) #[tt, tt, tt, tt, tt, tt, tt, tt, tt, tt, tt, ff, ff, ff] rfl rfl (any_of HT_.out (by kernel_rfl)) (fun _ _ _ h => h) (Or.inl ⟨by rfl, ?_⟩) ?_ ?_
         rotate_left
         ·
          intro w'
          go_simp
          with_reducible rfl
         rotate_left
         ·
          simp only [Act.put, zA, zB, zC, i64_w, i32_w]
          rfl
         refine pure_ (i := 11) (N := some 35) (v := ?_) (a' := ?_) #[tt, tt, tt, tt, tt, tt, tt, tt, tt, tt, tt, tt, ff, ff] rfl rfl (any_of HT_.out (by kernel_rfl)) (fun _ _ _ h => h) (Or.inl ⟨by rfl, ?_⟩) ?_ ?_
         rotate_left
         ·
          intro w'
          go_simp
          with_reducible rfl
         rotate_left
         ·
          simp only [Act.put, zA, zB, zC, i64_w, i32_w]
          rfl
         refine one_ (i := 12) (N := none) #[tt, tt, tt, tt, tt, tt, tt, tt, tt, tt, tt, tt, tt, ff] rfl rfl (one_of HT_.out (by kernel_rfl)) (by decide) (fun K hK => ?_)
         have hs22 : w21.cell? ⟨gb257, 1, none⟩ = some (.int .i64 0) := (zK BK257.out 1).trans rfl
         have hfs22 := zF BK257.out 1
         have hns22_0 := NB255_257.out
         have hms22_0 := NB257_255.out
         refine skip_ (w1 := ?_) (by rfl) rfl ?_ ?_
         rotate_left
         ·
          go_simp
          rfl
         refine hK.out _ _ ⟨((cell_far (p := ⟨gb257, _, none⟩) (by first | exact Nat.ne_of_lt (Nat.lt_of_lt_of_le (by have := World.block_lt_of_cell? _ _ hw258_0; first | rwa [add_block] at this | exact this) GW257.out) | (rw [add_block]; exact Nat.ne_of_lt (Nat.lt_of_lt_of_le (by have := World.block_lt_of_cell? _ _ hw258_0; first | rwa [add_block] at this | exact this) GW257.out)) | (show (Addr.add _ _).block ≠ _; rw [add_block]; exact Nat.ne_of_lt (Nat.lt_of_lt_of_le (by have := World.block_lt_of_cell? _ _ hw258_0; first | rwa [add_block] at this | exact this) GW257.out)) | (dsimp only; exact Nat.ne_of_lt (Nat.lt_of_lt_of_le (by have := World.block_lt_of_cell? _ _ hw258_0; first | rwa [add_block] at this | exact this) GW257.out))) _).trans (hHeld.1)), ((cell_far (p := ⟨gb257, _, none⟩) (by first | exact Nat.ne_of_lt (Nat.lt_of_lt_of_le (by have := World.block_lt_of_cell? _ _ hw259_0; first | rwa [add_block] at this | exact this) GW257.out) | (rw [add_block]; exact Nat.ne_of_lt (Nat.lt_of_lt_of_le (by have := World.block_lt_of_cell? _ _ hw259_0; first | rwa [add_block] at this | exact this) GW257.out)) | (show (Addr.add _ _).block ≠ _; rw [add_block]; exact Nat.ne_of_lt (Nat.lt_of_lt_of_le (by have := World.block_lt_of_cell? _ _ hw259_0; first | rwa [add_block] at this | exact this) GW257.out)) | (dsimp only; exact Nat.ne_of_lt (Nat.lt_of_lt_of_le (by have := World.block_lt_of_cell? _ _ hw259_0; first | rwa [add_block] at this | exact this) GW257.out))) _).trans (hHeld.2))⟩ (fun hHeld => ?_)
         clear hK K
         refine pure_ (i := 13) (N := some 5) (v := ?_) (a' := ?_) #[tt, tt, tt, tt, tt, tt, tt, tt, tt, tt, tt, tt, tt, tt] rfl rfl (any_of HT_.out (by kernel_rfl)) (fun _ _ _ h => h) (Or.inl ⟨by rfl, ?_⟩) ?_ ?_
         rotate_left
         ·
          intro w'
          go_simp
          with_reducible rfl
         rotate_left
         ·
          simp only [Act.put, zA, zB, zC, i64_w, i32_w]
          rfl
         refine done_ (done_of HT_.out (by kernel_rfl)) ?_
         have hnb23 := NB257_255.out
         have hnc23 := NB255_257.out
         have hcz24_0 : w21.cell? ⟨gb257, 0, none⟩ = some (.int .i64 (wrap64 (rd l0 0))) := (zK BK257.out 0).trans rfl
         have hcz24_1 : w21.cell? ⟨gb257, 1, none⟩ = some (.int .i64 0) := (zK BK257.out 1).trans rfl
         have hcz24_2 : w21.cell? ⟨gb257, 2, none⟩ = some (.string (⟨#[]⟩ : ByteArray)) := (zK BK257.out 2).trans rfl
         have hfz24_0 := zF BK257.out 0
         have hfz24_1 := zF BK257.out 1
         have hfz24_2 := zF BK257.out 2
         try go_wp2_with (first | ((with_reducible refine gate_callee (f := 46) rfl ?_); refine goesL_ (some 85) rfl rfl Try.func46 (by kernel_rfl) rfl #[.agg #[.int .i64 (wrap64 (rd l0 0)), .int .i64 (wrap64 ((wrap64 ((wrap64 ((wrap64 (rd l0 1)) * 256)) + (wrap64 (rd l0 2)))) - 10000)), .string (⟨#[]⟩ : ByteArray)]] rfl (by (try simp only [List.map_toArray, List.map_cons, List.map_nil]); first | done | rfl | (simp only [List.length_drop, List.length_take]; rfl)) ?_; (with_reducible refine (impl_Value_ok.calls (wrap64 (rd l0 0)) (wrap64 ((wrap64 ((wrap64 ((wrap64 (rd l0 1)) * 256)) + (wrap64 (rd l0 2)))) - 10000)) (⟨#[]⟩ : ByteArray) true _ A19.out).mono ?_); rintro e w25 ⟨rfl, hb⟩; refine ⟨_, rfl, ?_⟩; have n0_ := zM (zJ (g := gb255) (o := .cells #[.int .i64 0, .int .i64 0, .string (⟨#[]⟩ : ByteArray)] 27 (0, 0)) (by (with_reducible repeat (first | refine zX ?_ _ | refine zY ?_ | refine zZ ?_ _)); refine blk_far ?_ NB255_257.out _; (with_reducible repeat (first | refine zX ?_ _ | refine zY ?_ | refine zZ ?_ _)); exact BK255.out) hb); have n1_ := zM (zJ (g := gb257) (o := .cells #[.int .i64 (wrap64 (rd l0 0)), .int .i64 (wrap64 ((wrap64 ((wrap64 ((wrap64 (rd l0 1)) * 256)) + (wrap64 (rd l0 2)))) - 10000)), .string (⟨#[]⟩ : ByteArray)] 27 (0, 0)) (by (with_reducible repeat (first | refine zX ?_ _ | refine zY ?_ | refine zZ ?_ _)); refine blk_put (cs := #[.int .i64 (wrap64 (rd l0 0)), .int .i64 0, .string (⟨#[]⟩ : ByteArray)]) ?_ 1 _ rfl; (with_reducible repeat (first | refine zX ?_ _ | refine zY ?_ | refine zZ ?_ _)); exact BK257.out) hb); have n2_ := zM (zG (by repeat (first | (with_reducible first | exact HB.out | apply zU | apply zV | apply zW | refine zH ?_ GE255.out | refine zH ?_ GE257.out) | exact HB.out)) hb); clear BK255; clear BK257; clear HB; have BK255 := n0_; have BK257 := n1_; have HB := n2_; clear n0_ n1_ n2_; (try clear hb); (try clear hb2); (try clear hk); (try clear hi); have hcz26_0 : w25.cell? ⟨gb257, 0, none⟩ = some (.int .i64 (wrap64 (rd l0 0))) := (zK BK257.out 0).trans rfl; have hcz26_1 : w25.cell? ⟨gb257, 1, none⟩ = some (.int .i64 (wrap64 ((wrap64 ((wrap64 ((wrap64 (rd l0 1)) * 256)) + (wrap64 (rd l0 2)))) - 10000))) := (zK BK257.out 1).trans rfl; have hcz26_2 : w25.cell? ⟨gb257, 2, none⟩ = some (.string (⟨#[]⟩ : ByteArray)) := (zK BK257.out 2).trans rfl; have hfz26_0 := zF BK257.out 0; have hfz26_1 := zF BK257.out 1; have hfz26_2 := zF BK257.out 2; have hcz27_0 : w25.cell? ⟨gb255, 0, none⟩ = some (.int .i64 0) := (zK BK255.out 0).trans rfl; have hcz27_1 : w25.cell? ⟨gb255, 1, none⟩ = some (.int .i64 0) := (zK BK255.out 1).trans rfl; have hcz27_2 : w25.cell? ⟨gb255, 2, none⟩ = some (.string (⟨#[]⟩ : ByteArray)) := (zK BK255.out 2).trans rfl; have hfz27_0 := zF BK255.out 0; have hfz27_1 := zF BK255.out 1; have hfz27_2 := zF BK255.out 2))
         refine bodyPost_ret (results_ct rfl _ _ gb255 27 #[.int .i64 (wrap64 (rd l0 0)), .int .i64 (wrap64 ((wrap64 ((wrap64 ((wrap64 (rd l0 1)) * 256)) + (wrap64 (rd l0 2)))) - 10000)), .string (⟨#[]⟩ : ByteArray)] (0, 0) _ rfl (by (with_reducible repeat (first | refine zX ?_ _ | refine zY ?_ | refine zZ ?_ _)); refine blk_put (cs := #[.int .i64 (wrap64 (rd l0 0)), .int .i64 (wrap64 ((wrap64 ((wrap64 ((wrap64 (rd l0 1)) * 256)) + (wrap64 (rd l0 2)))) - 10000)), .string (⟨#[]⟩ : ByteArray)]) ?_ 2 _ rfl; (with_reducible repeat (first | refine zX ?_ _ | refine zY ?_ | refine zZ ?_ _)); refine blk_put (cs := #[.int .i64 (wrap64 (rd l0 0)), .int .i64 0, .string (⟨#[]⟩ : ByteArray)]) ?_ 1 _ rfl; (with_reducible repeat (first | refine zX ?_ _ | refine zY ?_ | refine zZ ?_ _)); refine blk_put (cs := #[.int .i64 0, .int .i64 0, .string (⟨#[]⟩ : ByteArray)]) ?_ 0 _ rfl; (with_reducible repeat (first | refine zX ?_ _ | refine zY ?_ | refine zZ ?_ _)); exact BK255.out) Try.underlying27 rfl (by kernel_rfl)) rfl ?_
         exact ⟨by first | rfl | (simp [errW_none, errW_some] <;> rfl) | (simp [*, errW_none, errW_some] <;> rfl), by repeat (first | (with_reducible first | exact HB.out | apply zU | apply zV | apply zW | refine zH ?_ GE255.out | refine zH ?_ GE257.out) | exact HB.out)⟩
        ·
         replace c20 := Bool.eq_false_iff.mpr c20
         subst c20
         have H1 : (some (0, 0, (⟨#[]⟩ : ByteArray), 0)) = some (r1, r2, r3, r4) := by rw [if_neg (show ¬ (false = true) by decide)] at H; exact H
         clear H
         have H := H1
         clear H1
         simp only [Option.some.injEq, Prod.mk.injEq] at H
         obtain ⟨rfl, rfl, rfl, rfl⟩ := H
         try go_wp2
         have n0_ := zM (zY BK255.out)
         have n1_ := zM (zY BK257.out)
         have n2_ := zM (zW HB.out)
         clear BK255
         clear BK257
         clear HB
         have BK255 := n0_
         have BK257 := n1_
         have HB := n2_
         clear n0_ n1_ n2_
         have p258 : 0 ≤ (1 : Int) := (by omega)
         have q258 : 1 < (l0.length : Int) := zL (by assumption)
         obtain ⟨ad258, e258, hx258_0⟩ := Kd.at_int HR0.out 1 p258 q258
         have hw258_0 := hx258_0
         (try rw [show ((1 : Int)).toNat = 1 from rfl] at hw258_0)
         (try rw [show 1 * 1 = 1 from rfl] at hw258_0)
         (try simp only [Nat.reduceMul, Nat.reduceEqDiff, Go.Addr.add, ↓reduceIte] at hw258_0)
         obtain rfl : ad256 = ad258 := (by injection e258)
         (try simp only [show (1 : Int).toNat = 1 from rfl, Nat.reduceMul, Nat.reduceEqDiff, Go.Addr.add, ↓reduceIte] at hx258_0)
         have qi258 : (1 < l0.length) = True := eq_true (by omega)
         (try rw [show ((1 : Int)).toNat = 1 from rfl] at hx258_0)
         replace hx258_0 := (HB.out.cell (World.block_lt_of_cell? w _ hx258_0)).trans hx258_0
         replace p258 := eq_true p258
         replace q258 := eq_true q258
         have p259 : 0 ≤ (2 : Int) := (by omega)
         have q259 : 2 < (l0.length : Int) := zL (by assumption)
         obtain ⟨ad259, e259, hx259_0⟩ := Kd.at_int HR0.out 2 p259 q259
         have hw259_0 := hx259_0
         (try rw [show ((2 : Int)).toNat = 2 from rfl] at hw259_0)
         (try rw [show 2 * 1 = 2 from rfl] at hw259_0)
         (try simp only [Nat.reduceMul, Nat.reduceEqDiff, Go.Addr.add, ↓reduceIte] at hw259_0)
         obtain rfl : ad256 = ad259 := (by injection e259)
         (try simp only [show (2 : Int).toNat = 2 from rfl, Nat.reduceMul, Nat.reduceEqDiff, Go.Addr.add, ↓reduceIte] at hx259_0)
         have qi259 : (2 < l0.length) = True := eq_true (by omega)
         (try rw [show ((2 : Int)).toNat = 2 from rfl] at hx259_0)
         replace hx259_0 := (HB.out.cell (World.block_lt_of_cell? w _ hx259_0)).trans hx259_0
         replace p259 := eq_true p259
         replace q259 := eq_true q259
         refine start_ (n := 14) (S := fun w' => w'.cell? ⟨ad256.block, ad256.off + 1, none⟩ = some (.int .u8 (rd l0 1)) ∧ w'.cell? ⟨ad256.block, ad256.off + 2, none⟩ = some (.int .u8 (rd l0 2))) (ds := []) #[ff, ff, ff, ff, ff, ff, ff, ff, ff, ff, ff, ff, ff, ff] (by kernel_rfl) rfl rfl ⟨((HB.out.cell (World.block_lt_of_cell? w _ hw258_0)).trans hw258_0), ((HB.out.cell (World.block_lt_of_cell? w _ hw259_0)).trans hw259_0)⟩ (fun hHeld => ?_); refine with_tabW impl_ValueFrom.tab5 impl_ValueFrom.bits5 (fun HT_ HW_ => ?_)
         generalize wc.drew = w28 at BK255 BK257 HB hx258_0 hx259_0 hHeld ⊢
         refine pure_ (i := 0) (N := some 24) (v := ?_) (a' := ?_) #[tt, ff, ff, ff, ff, ff, ff, ff, ff, ff, ff, ff, ff, ff] rfl rfl (any_of HT_.out (by kernel_rfl)) (fun _ _ _ h => h) (Or.inl ⟨by rfl, ?_⟩) ?_ ?_
         rotate_left
         ·
          intro w'
          go_simp
          with_reducible rfl
         rotate_left
         ·
          simp only [Act.put, zA, zB, zC, i64_w, i32_w]
          rfl
         refine pure_ (i := 1) (N := some 25) (v := ?_) (a' := ?_) #[tt, tt, ff, ff, ff, ff, ff, ff, ff, ff, ff, ff, ff, ff] rfl rfl (any_of HT_.out (by kernel_rfl)) (fun _ _ _ h => h) (Or.inl ⟨by rfl, ?_⟩) ?_ ?_
         rotate_left
         ·
          intro w'
          go_simp
          with_reducible rfl
         rotate_left
         ·
          simp only [Act.put, zA, zB, zC, i64_w, i32_w]
          rfl
         refine pure_ (i := 5) (N := some 29) (v := ?_) (a' := ?_) #[tt, tt, ff, ff, ff, tt, ff, ff, ff, ff, ff, ff, ff, ff] rfl rfl (any_of HT_.out (by kernel_rfl)) (fun _ _ _ h => h) (Or.inl ⟨by rfl, ?_⟩) ?_ ?_
         rotate_left
         ·
          intro w'
          go_simp
          with_reducible rfl
         rotate_left
         ·
          simp only [Act.put, zA, zB, zC, i64_w, i32_w]
          rfl
         refine pure_ (i := 6) (N := some 30) (v := ?_) (a' := ?_) #[tt, tt, ff, ff, ff, tt, tt, ff, ff, ff, ff, ff, ff, ff] rfl rfl (any_of HT_.out (by kernel_rfl)) (fun _ _ _ h => h) (Or.inl ⟨by rfl, ?_⟩) ?_ ?_
         rotate_left
         ·
          intro w'
          go_simp
          with_reducible rfl
         rotate_left
         ·
          simp only [Act.put, zA, zB, zC, i64_w, i32_w]
          rfl
         refine take_ (i := 2) (N := some 26) (v := ?_) (a' := ?_) #[tt, tt, tt, ff, ff, tt, tt, ff, ff, ff, ff, ff, ff, ff] rfl rfl (take_ofW HT_.out HW_.out (by kernel_rfl)) (fun _ _ _ h => h) (Or.inl ⟨by rfl, ?_⟩) hHeld ?_ ?_
         rotate_left
         ·
          rintro w' ⟨s0, s1⟩
          go_simp
          with_reducible rfl
         rotate_left
         ·
          simp only [Act.put, zA, zB, zC, i64_w, i32_w]
          rfl
         refine pure_ (i := 3) (N := some 27) (v := ?_) (a' := ?_) #[tt, tt, tt, tt, ff, tt, tt, ff, ff, ff, ff, ff, ff, ff] rfl rfl (any_of HT_.out (by kernel_rfl)) (fun _ _ _ h => h) (Or.inl ⟨by rfl, ?_⟩) ?_ ?_
         rotate_left
         ·
          intro w'
          go_simp
          with_reducible rfl
         rotate_left
         ·
          simp only [Act.put, zA, zB, zC, i64_w, i32_w]
          rfl
         refine pure_ (i := 4) (N := some 28) (v := ?_) (a' := ?_) #[tt, tt, tt, tt, tt, tt, tt, ff, ff, ff, ff, ff, ff, ff] rfl rfl (any_of HT_.out (by kernel_rfl)) (fun _ _ _ h => h) (Or.inl ⟨by rfl, ?_⟩) ?_ ?_
         rotate_left
         ·
          intro w'
          go_simp
          with_reducible rfl
         rotate_left
         ·
          simp only [Act.put, zA, zB, zC, i64_w, i32_w]
          rfl
         refine take_ (i := 7) (N := some 31) (v := ?_) (a' := ?_) #[tt, tt, tt, tt, tt, tt, tt, tt, ff, ff, ff, ff, ff, ff] rfl rfl (take_ofW HT_.out HW_.out (by kernel_rfl)) (fun _ _ _ h => h) (Or.inl ⟨by rfl, ?_⟩) hHeld ?_ ?_
         rotate_left
         ·
          rintro w' ⟨s0, s1⟩
          go_simp
          with_reducible rfl
         rotate_left
         ·
          simp only [Act.put, zA, zB, zC, i64_w, i32_w]
          rfl
         refine pure_ (i := 8) (N := some 32) (v := ?_) (a' := ?_) #[tt, tt, tt, tt, tt, tt, tt, tt, tt, ff, ff, ff, ff, ff] rfl rfl (any_of HT_.out (by kernel_rfl)) (fun _ _ _ h => h) (Or.inl ⟨by rfl, ?_⟩) ?_ ?_
         rotate_left
         ·
          intro w'
          go_simp
          with_reducible rfl
         rotate_left
         ·
          simp only [Act.put, zA, zB, zC, i64_w, i32_w]
          rfl
         refine pure_ (i := 9) (N := some 33) (v := ?_) (a' := ?_) #[tt, tt, tt, tt, tt, tt, tt, tt, tt, tt, ff, ff, ff, ff] rfl rfl (any_of HT_.out (by kernel_rfl)) (fun _ _ _ h => h) (Or.inl ⟨by rfl, ?_⟩) ?_ ?_
         rotate_left
         ·
          intro w'
          go_simp
          with_reducible rfl
         rotate_left
         ·
          simp only [Act.put, zA, zB, zC, i64_w, i32_w]
          rfl
         refine pure_ (i := 10) (N := some 34) (v := ?_) (a' := ?_) #[tt, tt, tt, tt, tt, tt, tt, tt, tt, tt, tt, ff, ff, ff] rfl rfl (any_of HT_.out (by kernel_rfl)) (fun _ _ _ h => h) (Or.inl ⟨by rfl, ?_⟩) ?_ ?_
         rotate_left
         ·
          intro w'
          go_simp
          with_reducible rfl
         rotate_left
         ·
          simp only [Act.put, zA, zB, zC, i64_w, i32_w]
          rfl
         refine pure_ (i := 11) (N := some 35) (v := ?_) (a' := ?_) #[tt, tt, tt, tt, tt, tt, tt, tt, tt, tt, tt, tt, ff, ff] rfl rfl (any_of HT_.out (by kernel_rfl)) (fun _ _ _ h => h) (Or.inl ⟨by rfl, ?_⟩) ?_ ?_
         rotate_left
         ·
          intro w'
          go_simp
          with_reducible rfl
         rotate_left
         ·
          simp only [Act.put, zA, zB, zC, i64_w, i32_w]
          rfl
         refine one_ (i := 12) (N := none) #[tt, tt, tt, tt, tt, tt, tt, tt, tt, tt, tt, tt, tt, ff] rfl rfl (one_of HT_.out (by kernel_rfl)) (by decide) (fun K hK => ?_)
         have hs29 : w28.cell? ⟨gb257, 1, none⟩ = some (.int .i64 0) := (zK BK257.out 1).trans rfl
         have hfs29 := zF BK257.out 1
         have hns29_0 := NB255_257.out
         have hms29_0 := NB257_255.out
         refine skip_ (w1 := ?_) (by rfl) rfl ?_ ?_
         rotate_left
         ·
          go_simp
          rfl
         refine hK.out _ _ ⟨((cell_far (p := ⟨gb257, _, none⟩) (by first | exact Nat.ne_of_lt (Nat.lt_of_lt_of_le (by have := World.block_lt_of_cell? _ _ hw258_0; first | rwa [add_block] at this | exact this) GW257.out) | (rw [add_block]; exact Nat.ne_of_lt (Nat.lt_of_lt_of_le (by have := World.block_lt_of_cell? _ _ hw258_0; first | rwa [add_block] at this | exact this) GW257.out)) | (show (Addr.add _ _).block ≠ _; rw [add_block]; exact Nat.ne_of_lt (Nat.lt_of_lt_of_le (by have := World.block_lt_of_cell? _ _ hw258_0; first | rwa [add_block] at this | exact this) GW257.out)) | (dsimp only; exact Nat.ne_of_lt (Nat.lt_of_lt_of_le (by have := World.block_lt_of_cell? _ _ hw258_0; first | rwa [add_block] at this | exact this) GW257.out))) _).trans (hHeld.1)), ((cell_far (p := ⟨gb257, _, none⟩) (by first | exact Nat.ne_of_lt (Nat.lt_of_lt_of_le (by have := World.block_lt_of_cell? _ _ hw259_0; first | rwa [add_block] at this | exact this) GW257.out) | (rw [add_block]; exact Nat.ne_of_lt (Nat.lt_of_lt_of_le (by have := World.block_lt_of_cell? _ _ hw259_0; first | rwa [add_block] at this | exact this) GW257.out)) | (show (Addr.add _ _).block ≠ _; rw [add_block]; exact Nat.ne_of_lt (Nat.lt_of_lt_of_le (by have := World.block_lt_of_cell? _ _ hw259_0; first | rwa [add_block] at this | exact this) GW257.out)) | (dsimp only; exact Nat.ne_of_lt (Nat.lt_of_lt_of_le (by have := World.block_lt_of_cell? _ _ hw259_0; first | rwa [add_block] at this | exact this) GW257.out))) _).trans (hHeld.2))⟩ (fun hHeld => ?_)
         clear hK K
         refine pure_ (i := 13) (N := some 5) (v := ?_) (a' := ?_) #[tt, tt, tt, tt, tt, tt, tt, tt, tt, tt, tt, tt, tt, tt] rfl rfl (any_of HT_.out (by kernel_rfl)) (fun _ _ _ h => h) (Or.inl ⟨by rfl, ?_⟩) ?_ ?_
         rotate_left
         ·
          intro w'
          go_simp
          with_reducible rfl
         rotate_left
         ·
          simp only [Act.put, zA, zB, zC, i64_w, i32_w]
          rfl
         refine done_ (done_of HT_.out (by kernel_rfl)) ?_
         have hnb30 := NB257_255.out
         have hnc30 := NB255_257.out
         have hcz31_0 : w28.cell? ⟨gb257, 0, none⟩ = some (.int .i64 (wrap64 (rd l0 0))) := (zK BK257.out 0).trans rfl
         have hcz31_1 : w28.cell? ⟨gb257, 1, none⟩ = some (.int .i64 0) := (zK BK257.out 1).trans rfl
         have hcz31_2 : w28.cell? ⟨gb257, 2, none⟩ = some (.string (⟨#[]⟩ : ByteArray)) := (zK BK257.out 2).trans rfl
         have hfz31_0 := zF BK257.out 0
         have hfz31_1 := zF BK257.out 1
         have hfz31_2 := zF BK257.out 2
         try go_wp2_with (first | ((with_reducible refine gate_callee (f := 46) rfl ?_); refine goesL_ (some 85) rfl rfl Try.func46 (by kernel_rfl) rfl #[.agg #[.int .i64 (wrap64 (rd l0 0)), .int .i64 (wrap64 ((wrap64 ((wrap64 ((wrap64 (rd l0 1)) * 256)) + (wrap64 (rd l0 2)))) - 10000)), .string (⟨#[]⟩ : ByteArray)]] rfl (by (try simp only [List.map_toArray, List.map_cons, List.map_nil]); first | done | rfl | (simp only [List.length_drop, List.length_take]; rfl)) ?_; (with_reducible refine (impl_Value_ok.calls (wrap64 (rd l0 0)) (wrap64 ((wrap64 ((wrap64 ((wrap64 (rd l0 1)) * 256)) + (wrap64 (rd l0 2)))) - 10000)) (⟨#[]⟩ : ByteArray) false _ A19.out).mono ?_); rintro e w32 ⟨rfl, hb⟩; refine ⟨_, rfl, ?_⟩; have n0_ := zM (zJ (g := gb255) (o := .cells #[.int .i64 0, .int .i64 0, .string (⟨#[]⟩ : ByteArray)] 27 (0, 0)) (by (with_reducible repeat (first | refine zX ?_ _ | refine zY ?_ | refine zZ ?_ _)); refine blk_far ?_ NB255_257.out _; (with_reducible repeat (first | refine zX ?_ _ | refine zY ?_ | refine zZ ?_ _)); exact BK255.out) hb); have n1_ := zM (zJ (g := gb257) (o := .cells #[.int .i64 (wrap64 (rd l0 0)), .int .i64 (wrap64 ((wrap64 ((wrap64 ((wrap64 (rd l0 1)) * 256)) + (wrap64 (rd l0 2)))) - 10000)), .string (⟨#[]⟩ : ByteArray)] 27 (0, 0)) (by (with_reducible repeat (first | refine zX ?_ _ | refine zY ?_ | refine zZ ?_ _)); refine blk_put (cs := #[.int .i64 (wrap64 (rd l0 0)), .int .i64 0, .string (⟨#[]⟩ : ByteArray)]) ?_ 1 _ rfl; (with_reducible repeat (first | refine zX ?_ _ | refine zY ?_ | refine zZ ?_ _)); exact BK257.out) hb); have n2_ := zM (zG (by repeat (first | (with_reducible first | exact HB.out | apply zU | apply zV | apply zW | refine zH ?_ GE255.out | refine zH ?_ GE257.out) | exact HB.out)) hb); clear BK255; clear BK257; clear HB; have BK255 := n0_; have BK257 := n1_; have HB := n2_; clear n0_ n1_ n2_; (try clear hb); (try clear hb2); (try clear hk); (try clear hi); have hcz33_0 : w32.cell? ⟨gb255, 0, none⟩ = some (.int .i64 0) := (zK BK255.out 0).trans rfl; have hcz33_1 : w32.cell? ⟨gb255, 1, none⟩ = some (.int .i64 0) := (zK BK255.out 1).trans rfl; have hcz33_2 : w32.cell? ⟨gb255, 2, none⟩ = some (.string (⟨#[]⟩ : ByteArray)) := (zK BK255.out 2).trans rfl; have hfz33_0 := zF BK255.out 0; have hfz33_1 := zF BK255.out 1; have hfz33_2 := zF BK255.out 2))
         refine bodyPost_ret (results_ct rfl _ _ gb255 27 #[.int .i64 0, .int .i64 0, .string (⟨#[]⟩ : ByteArray)] (0, 0) _ rfl (by (with_reducible repeat (first | refine zX ?_ _ | refine zY ?_ | refine zZ ?_ _)); refine blk_put (cs := #[.int .i64 0, .int .i64 0, .string (⟨#[]⟩ : ByteArray)]) ?_ 2 _ rfl; (with_reducible repeat (first | refine zX ?_ _ | refine zY ?_ | refine zZ ?_ _)); refine blk_put (cs := #[.int .i64 0, .int .i64 0, .string (⟨#[]⟩ : ByteArray)]) ?_ 1 _ rfl; (with_reducible repeat (first | refine zX ?_ _ | refine zY ?_ | refine zZ ?_ _)); refine blk_put (cs := #[.int .i64 0, .int .i64 0, .string (⟨#[]⟩ : ByteArray)]) ?_ 0 _ rfl; (with_reducible repeat (first | refine zX ?_ _ | refine zY ?_ | refine zZ ?_ _)); exact BK255.out) Try.underlying27 rfl (by kernel_rfl)) rfl ?_
         exact ⟨by first | rfl | (simp [errW_none, errW_some] <;> rfl) | (simp [*, errW_none, errW_some] <;> rfl), by repeat (first | (with_reducible first | exact HB.out | apply zU | apply zV | apply zW | refine zH ?_ GE255.out | refine zH ?_ GE257.out) | exact HB.out)⟩
       ·
        rw [if_neg c18] at H
        exact absurd H (by simp)
      ·
       rw [if_neg c17] at H
       exact absurd H (by simp)
     ·
      replace c16 := Bool.eq_false_iff.mpr c16
      subst c16
      have H1 : (if (wrap64 (rd l0 0)) = 2 then (if (l0.length : Int) > 1 then (if 1 < (l0.length : Int) then (impl_ValueFrom.j1 kj5 l0 1 (decide ((l0.length : Int) ≥ (wrap64 (2 + (wrap64 (rd l0 1)))))) (wrap64 (rd l0 0)) 0 (⟨#[]⟩ : ByteArray)) else (none)) else (impl_ValueFrom.j1 kj5 l0 1 false (wrap64 (rd l0 0)) 0 (⟨#[]⟩ : ByteArray))) else (impl_ValueFrom.j1 kj5 l0 1 false (wrap64 (rd l0 0)) 0 (⟨#[]⟩ : ByteArray))) = some (r1, r2, r3, r4) := by rw [if_neg (show ¬ (false = true) by decide)] at H; exact H
      clear H
      have H := H1
      clear H1
      have HC34 := zM H
      clear H
      go_upto_region 6 with (fail)
      go_cut [36] (fun v36 wc => ∃ (kq : Nat) (x36_33 : Bool), v36 = .bool x36_33 ∧ Aside0 (impl_ValueFrom.j1 kq l0 1 x36_33 (wrap64 (rd l0 0)) 0 (⟨#[]⟩ : ByteArray) = some (r1, r2, r3, r4)) ∧ Aside0 (kq ≤ kj5) ∧ Aside0 (wc.heap[gb255]? = some (.cells #[.int .i64 0, .int .i64 0, .string (⟨#[]⟩ : ByteArray)] 27 (0, 0))) ∧ Aside0 (wc.heap[gb257]? = some (.cells #[.int .i64 (wrap64 (rd l0 0)), .int .i64 0, .string (⟨#[]⟩ : ByteArray)] 27 (0, 0))) ∧ Aside0 (Below w.heap.size w wc))
      case first =>
       have H := HC34.out
       clear HC34
       by_cases c35 : (wrap64 (rd l0 0)) = 2
       ·
        rw [if_pos c35] at H
        have c35b0 : ((wrap64 (rd l0 0)) == 2) = true := beq_iff_eq.mpr c35
        have c35b1 : ((wrap64 (rd l0 0)) != 2) = false := bne_eq_false_iff_eq.mpr c35
        clear c35
        (first | rw [c35b0] | (simp only [i64_w, i32_w]; rw [c35b0]) | skip)
        by_cases c36 : (l0.length : Int) > 1
        ·
         rw [if_pos c36] at H
         have c36b0 : decide (1 < (l0.length : Int)) = true := decide_eq_true c36
         have c36b1 : decide (1 < l0.length) = true := decide_eq_true (by omega)
         clear c36
         by_cases c37 : 1 < (l0.length : Int)
         ·
          rw [if_pos c37] at H
          have c37b0 : decide (1 < (l0.length : Int)) = true := decide_eq_true c37
          have c37b1 : decide (1 < l0.length) = true := decide_eq_true (by omega)
          clear c37
          have H' := zM H
          clear H
          have hnb38 := NB257_255.out
          have hnc38 := NB255_257.out
          have hcz39_0 : wc.cell? ⟨gb257, 0, none⟩ = some (.int .i64 (wrap64 (rd l0 0))) := (zK BK257.out 0).trans rfl
          have hcz39_1 : wc.cell? ⟨gb257, 1, none⟩ = some (.int .i64 0) := (zK BK257.out 1).trans rfl
          have hcz39_2 : wc.cell? ⟨gb257, 2, none⟩ = some (.string (⟨#[]⟩ : ByteArray)) := (zK BK257.out 2).trans rfl
          have hfz39_0 := zF BK257.out 0
          have hfz39_1 := zF BK257.out 1
          have hfz39_2 := zF BK257.out 2
          have p261 : 0 ≤ (1 : Int) := (by omega)
          have q261 : 1 < (l0.length : Int) := zL (by assumption)
          obtain ⟨ad261, e261, hx261_0⟩ := Kd.at_int HR0.out 1 p261 q261
          obtain rfl : ad256 = ad261 := (by injection e261)
          (try simp only [show (1 : Int).toNat = 1 from rfl, Nat.reduceMul, Nat.reduceEqDiff, Go.Addr.add, ↓reduceIte] at hx261_0)
          have qi261 : (1 < l0.length) = True := eq_true (by omega)
          (try rw [show ((1 : Int)).toNat = 1 from rfl] at hx261_0)
          replace hx261_0 := (HB.out.cell (World.block_lt_of_cell? w _ hx261_0)).trans hx261_0
          replace p261 := eq_true p261
          replace q261 := eq_true q261
          go_wp2
          go_meet
          case rel => exact ⟨_, (decide ((l0.length : Int) ≥ (wrap64 (2 + (wrap64 (rd l0 1)))))), (by first | rfl | (simp; done) | (simp [*]; done)), H', ⟨by have := HJ5.out; first | omega | exact Nat.le_refl _⟩, ⟨by (with_reducible repeat (first | refine zX ?_ _ | refine zY ?_ | refine zZ ?_ _)); exact BK255.out⟩, ⟨by (with_reducible repeat (first | refine zX ?_ _ | refine zY ?_ | refine zZ ?_ _)); exact BK257.out⟩, ⟨by repeat (first | (with_reducible first | exact HB.out | apply zU | apply zV | apply zW | refine zH ?_ GE255.out | refine zH ?_ GE257.out) | exact HB.out)⟩⟩
         ·
          rw [if_neg c37] at H
          exact absurd H (by simp)
        ·
         rw [if_neg c36] at H
         have c36b0 : decide (1 < (l0.length : Int)) = false := decide_eq_false c36
         have c36b1 : decide (1 < l0.length) = false := decide_eq_false (by omega)
         clear c36
         have H' := zM H
         clear H
         have hnb40 := NB257_255.out
         have hnc40 := NB255_257.out
         have hcz41_0 : wc.cell? ⟨gb257, 0, none⟩ = some (.int .i64 (wrap64 (rd l0 0))) := (zK BK257.out 0).trans rfl
         have hcz41_1 : wc.cell? ⟨gb257, 1, none⟩ = some (.int .i64 0) := (zK BK257.out 1).trans rfl
         have hcz41_2 : wc.cell? ⟨gb257, 2, none⟩ = some (.string (⟨#[]⟩ : ByteArray)) := (zK BK257.out 2).trans rfl
         have hfz41_0 := zF BK257.out 0
         have hfz41_1 := zF BK257.out 1
         have hfz41_2 := zF BK257.out 2
         go_wp2
         go_meet
         case rel => exact ⟨_, (false), (by first | rfl | (simp; done) | (simp [*]; done)), H', ⟨by have := HJ5.out; first | omega | exact Nat.le_refl _⟩, ⟨by (with_reducible repeat (first | refine zX ?_ _ | refine zY ?_ | refine zZ ?_ _)); exact BK255.out⟩, ⟨by (with_reducible repeat (first | refine zX ?_ _ | refine zY ?_ | refine zZ ?_ _)); exact BK257.out⟩, ⟨by repeat (first | (with_reducible first | exact HB.out | apply zU | apply zV | apply zW | refine zH ?_ GE255.out | refine zH ?_ GE257.out) | exact HB.out)⟩⟩
       ·
        rw [if_neg c35] at H
        have c35b0 : ((wrap64 (rd l0 0)) == 2) = false := beq_eq_false_iff_ne.mpr c35
        have c35b1 : ((wrap64 (rd l0 0)) != 2) = true := bne_iff_ne.mpr c35
        (first | rw [c35b0] | (simp only [i64_w, i32_w]; rw [c35b0]) | skip)
        have H' := zM H
        clear H
        have hnb42 := NB257_255.out
        have hnc42 := NB255_257.out
        have hcz43_0 : wc.cell? ⟨gb257, 0, none⟩ = some (.int .i64 (wrap64 (rd l0 0))) := (zK BK257.out 0).trans rfl
        have hcz43_1 : wc.cell? ⟨gb257, 1, none⟩ = some (.int .i64 0) := (zK BK257.out 1).trans rfl
        have hcz43_2 : wc.cell? ⟨gb257, 2, none⟩ = some (.string (⟨#[]⟩ : ByteArray)) := (zK BK257.out 2).trans rfl
        have hfz43_0 := zF BK257.out 0
        have hfz43_1 := zF BK257.out 1
        have hfz43_2 := zF BK257.out 2
        go_wp2
        go_meet
        case rel => exact ⟨_, (false), (by first | rfl | (simp; done) | (simp [*]; done)), H', ⟨by have := HJ5.out; first | omega | exact Nat.le_refl _⟩, ⟨by (with_reducible repeat (first | refine zX ?_ _ | refine zY ?_ | refine zZ ?_ _)); exact BK255.out⟩, ⟨by (with_reducible repeat (first | refine zX ?_ _ | refine zY ?_ | refine zZ ?_ _)); exact BK257.out⟩, ⟨by repeat (first | (with_reducible first | exact HB.out | apply zU | apply zV | apply zW | refine zH ?_ GE255.out | refine zH ?_ GE257.out) | exact HB.out)⟩⟩
      case rest =>
       clear HC34
       try clear c1
       try clear c2
       try clear c2b0
       try clear c2b1
       try clear c2b2
       try clear p2
       try clear q2
       try clear hx2
       try clear qi2
       try clear c3
       try clear c4
       try clear c5
       try clear c5b0
       try clear c5b1
       try clear p6
       try clear c9
       try clear c11
       try clear c11b0
       try clear c11b1
       try clear c12
       try clear c14
       try clear c16
       try clear c17
       try clear c17b0
       try clear c17b1
       try clear c18
       try clear c18b0
       try clear c18b1
       try clear c20
       try clear c23
       try clear p25
       try clear q25
       try clear hx25
       try clear qi25
       try clear c26
       try clear p26
       try clear q26
       try clear hx26
       try clear qi26
       try clear c30
       try clear c35
       try clear c35b0
       try clear c35b1
       try clear c36
       try clear c36b0
       try clear c36b1
       try clear c37
       try clear c37b0
       try clear c37b1
       try clear c38
       try clear c40
       try clear c42
       try clear hcz10_0
       try clear hcz10_1
       try clear hcz10_2
       try clear hcz13_0
       try clear hcz13_1
       try clear hcz13_2
       try clear hcz15_0
       try clear hcz15_1
       try clear hcz15_2
       try clear hcz24_0
       try clear hcz24_1
       try clear hcz24_2
       try clear hcz26_0
       try clear hcz26_1
       try clear hcz26_2
       try clear hcz27_0
       try clear hcz27_1
       try clear hcz27_2
       try clear hcz31_0
       try clear hcz31_1
       try clear hcz31_2
       try clear hcz33_0
       try clear hcz33_1
       try clear hcz33_2
       try clear hcz39_0
       try clear hcz39_1
       try clear hcz39_2
       try clear hcz41_0
       try clear hcz41_1
       try clear hcz41_2
       try clear hcz43_0
       try clear hcz43_1
       try clear hcz43_2
       try clear hcz4_0
       try clear hcz4_1
       try clear hcz4_2
       try clear hfz10_0
       try clear hfz10_1
       try clear hfz10_2
       try clear hfz13_0
       try clear hfz13_1
       try clear hfz13_2
       try clear hfz15_0
       try clear hfz15_1
       try clear hfz15_2
       try clear hfz24_0
       try clear hfz24_1
       try clear hfz24_2
       try clear hfz26_0
       try clear hfz26_1
       try clear hfz26_2
       try clear hfz27_0
       try clear hfz27_1
       try clear hfz27_2
       try clear hfz31_0
       try clear hfz31_1
       try clear hfz31_2
       try clear hfz33_0
       try clear hfz33_1
       try clear hfz33_2
       try clear hfz39_0
       try clear hfz39_1
       try clear hfz39_2
       try clear hfz41_0
       try clear hfz41_1
       try clear hfz41_2
       try clear hfz43_0
       try clear hfz43_1
       try clear hfz43_2
       try clear hfz4_0
       try clear hfz4_1
       try clear hfz4_2
       try clear hx256_0
       try clear hx258_0
       try clear hx259_0
       try clear hx261_0
       try clear p2
       try clear p256
       try clear p258
       try clear p259
       try clear p261
       try clear p6
       try clear q2
       try clear q256
       try clear q258
       try clear q259
       try clear q261
       obtain ⟨kq, x36_33, rfl, HA, HJ33, BK255, BK257, HB⟩ := hcut
       cases kq with
       | zero => exact absurd HA.out (by simp [impl_ValueFrom.j1])
       | succ kj33 =>
        have H := HA.out
        clear HA
        simp only [impl_ValueFrom.j1] at H
        by_cases c44 : x36_33 = true
        ·
         subst c44
         have H1 : (if 1 < (l0.length : Int) then (if 2 ≤ (wrap64 (2 + (wrap64 (rd l0 1)))) then (if (wrap64 (2 + (wrap64 (rd l0 1)))) ≤ (l0.length : Int) then ((impl_Value_ok.f (wrap64 (rd l0 0)) 0 (strOfNums ((l0.take ((wrap64 (2 + (wrap64 (rd l0 1)))) : Int).toNat).drop 2))).bind fun t264 => (if t264 = true then (some ((wrap64 (rd l0 0)), 0, strOfNums ((l0.take ((wrap64 (2 + (wrap64 (rd l0 1)))) : Int).toNat).drop 2), wrap64 (2 + (wrap64 (rd l0 1))))) else (some (0, 0, (⟨#[]⟩ : ByteArray), 0)))) else (none)) else (none)) else (none)) = some (r1, r2, r3, r4) := by rw [if_pos rfl] at H; exact H
         clear H
         have H := H1
         clear H1
         by_cases c45 : 1 < (l0.length : Int)
         ·
          rw [if_pos c45] at H
          have c45b0 : decide (1 < (l0.length : Int)) = true := decide_eq_true c45
          have c45b1 : decide (1 < l0.length) = true := decide_eq_true (by omega)
          clear c45
          by_cases c46 : 2 ≤ (wrap64 (2 + (wrap64 (rd l0 1))))
          ·
           rw [if_pos c46] at H
           have c46b0 := eq_true c46
           have c46b1 : decide (2 ≤ (wrap64 (2 + (wrap64 (rd l0 1))))) = true := decide_eq_true c46
           by_cases c47 : (wrap64 (2 + (wrap64 (rd l0 1)))) ≤ (l0.length : Int)
           ·
            rw [if_pos c47] at H
            have c47b0 := eq_true c47
            have c47b1 : decide ((wrap64 (2 + (wrap64 (rd l0 1)))) ≤ (l0.length : Int)) = true := decide_eq_true c47
            replace H := Option.bind_eq_some_iff.mp H
            obtain ⟨t264, A480, H⟩ := H
            replace H : (if t264 = true then (some ((wrap64 (rd l0 0)), 0, strOfNums ((l0.take ((wrap64 (2 + (wrap64 (rd l0 1)))) : Int).toNat).drop 2), wrap64 (2 + (wrap64 (rd l0 1))))) else (some (0, 0, (⟨#[]⟩ : ByteArray), 0))) = some (r1, r2, r3, r4) := H
            have A48 := zM A480
            clear A480
            by_cases c49 : t264 = true
            ·
             subst c49
             have H1 : (some ((wrap64 (rd l0 0)), 0, strOfNums ((l0.take ((wrap64 (2 + (wrap64 (rd l0 1)))) : Int).toNat).drop 2), wrap64 (2 + (wrap64 (rd l0 1))))) = some (r1, r2, r3, r4) := by rw [if_pos rfl] at H; exact H
             clear H
             have H := H1
             clear H1
             simp only [Option.some.injEq, Prod.mk.injEq] at H
             obtain ⟨rfl, rfl, rfl, rfl⟩ := H
             have p262 : 0 ≤ (1 : Int) := (by omega)
             have q262 : 1 < (l0.length : Int) := zL (by assumption)
             obtain ⟨ad262, e262, hx262_0⟩ := Kd.at_int HR0.out 1 p262 q262
             obtain rfl : ad256 = ad262 := (by injection e262)
             (try simp only [show (1 : Int).toNat = 1 from rfl, Nat.reduceMul, Nat.reduceEqDiff, Go.Addr.add, ↓reduceIte] at hx262_0)
             have qi262 : (1 < l0.length) = True := eq_true (by omega)
             (try rw [show ((1 : Int)).toNat = 1 from rfl] at hx262_0)
             replace hx262_0 := (HB.out.cell (World.block_lt_of_cell? w _ hx262_0)).trans hx262_0
             replace p262 := eq_true p262
             replace q262 := eq_true q262
             obtain ⟨i050, hi050, _, hsz50, _⟩ := info_parts info5
             obtain ⟨A50, hcut50, hA50, hC50⟩ := print_mid_of (P := Try.prog) (Value.int .u8) 0 25 5 .i64 .i64 Try.underlying25 hi050 hsz50 (some ad256) c0 l0 2 (wrap64 (2 + (wrap64 (rd l0 1)))) (by omega) (by first | omega | exact zL (by assumption)) (zL (by assumption)) HC0.out
             have HR263 := zM (Kd.C_of_reads (h1 := fun _ => rfl) (hA50 _ (Kd.reads_of_C HR0.out)))
             have HC263 := zM hC50
             clear hA50 hC50 hi050 hsz50
             have hcv51 := Kd.C_string (P := Try.prog) (A := A50) (c := (c0 - 2)) Try.underlying25 Try.underlying5 Try.underlying9 (Kd.C_below HR263.out HB.out)
             have hce_ : (wrap64 (2 + (wrap64 (rd l0 1)))) ≤ (l0.length : Int) := zL (by assumption)
             rw [List.length_drop, List.length_take, Nat.min_eq_left (by omega)] at hcv51
             (try simp only [Int.reduceToNat] at hcv51)
             clear hce_
             have hnb52 := NB257_255.out
             have hnc52 := NB255_257.out
             have hcz53_0 : wc.cell? ⟨gb257, 0, none⟩ = some (.int .i64 (wrap64 (rd l0 0))) := (zK BK257.out 0).trans rfl
             have hcz53_1 : wc.cell? ⟨gb257, 1, none⟩ = some (.int .i64 0) := (zK BK257.out 1).trans rfl
             have hcz53_2 : wc.cell? ⟨gb257, 2, none⟩ = some (.string (⟨#[]⟩ : ByteArray)) := (zK BK257.out 2).trans rfl
             have hfz53_0 := zF BK257.out 0
             have hfz53_1 := zF BK257.out 1
             have hfz53_2 := zF BK257.out 2
             go_wp2_with (first | ((with_reducible refine gate_callee (f := 46) rfl ?_); refine goesL_ (some 85) rfl rfl Try.func46 (by kernel_rfl) rfl #[.agg #[.int .i64 (wrap64 (rd l0 0)), .int .i64 0, .string (strOfNums ((l0.take ((wrap64 (2 + (wrap64 (rd l0 1)))) : Int).toNat).drop 2))]] rfl (by (try simp only [List.map_toArray, List.map_cons, List.map_nil]); first | done | rfl | (simp only [List.length_drop, List.length_take]; rfl)) ?_; (with_reducible refine (impl_Value_ok.calls (wrap64 (rd l0 0)) 0 (strOfNums ((l0.take ((wrap64 (2 + (wrap64 (rd l0 1)))) : Int).toNat).drop 2)) true _ A48.out).mono ?_); rintro e w54 ⟨rfl, hb⟩; refine ⟨_, rfl, ?_⟩; have n0_ := zM (zJ (g := gb255) (o := .cells #[.int .i64 0, .int .i64 0, .string (⟨#[]⟩ : ByteArray)] 27 (0, 0)) (by (with_reducible repeat (first | refine zX ?_ _ | refine zY ?_ | refine zZ ?_ _)); refine blk_far ?_ NB255_257.out _; (with_reducible repeat (first | refine zX ?_ _ | refine zY ?_ | refine zZ ?_ _)); exact BK255.out) hb); have n1_ := zM (zJ (g := gb257) (o := .cells #[.int .i64 (wrap64 (rd l0 0)), .int .i64 0, .string (strOfNums ((l0.take ((wrap64 (2 + (wrap64 (rd l0 1)))) : Int).toNat).drop 2))] 27 (0, 0)) (by (with_reducible repeat (first | refine zX ?_ _ | refine zY ?_ | refine zZ ?_ _)); refine blk_put (cs := #[.int .i64 (wrap64 (rd l0 0)), .int .i64 0, .string (⟨#[]⟩ : ByteArray)]) ?_ 2 _ rfl; (with_reducible repeat (first | refine zX ?_ _ | refine zY ?_ | refine zZ ?_ _)); exact BK257.out) hb); have n2_ := zM (zG (by repeat (first | (with_reducible first | exact HB.out | apply zU | apply zV | apply zW | refine zH ?_ GE255.out | refine zH ?_ GE257.out) | exact HB.out)) hb); clear BK255; clear BK257; clear HB; have BK255 := n0_; have BK257 := n1_; have HB := n2_; clear n0_ n1_ n2_; (try clear hb); (try clear hb2); (try clear hk); (try clear hi); have hcz55_0 : w54.cell? ⟨gb257, 0, none⟩ = some (.int .i64 (wrap64 (rd l0 0))) := (zK BK257.out 0).trans rfl; have hcz55_1 : w54.cell? ⟨gb257, 1, none⟩ = some (.int .i64 0) := (zK BK257.out 1).trans rfl; have hcz55_2 : w54.cell? ⟨gb257, 2, none⟩ = some (.string (strOfNums ((l0.take ((wrap64 (2 + (wrap64 (rd l0 1)))) : Int).toNat).drop 2))) := (zK BK257.out 2).trans rfl; have hfz55_0 := zF BK257.out 0; have hfz55_1 := zF BK257.out 1; have hfz55_2 := zF BK257.out 2; have hcz56_0 : w54.cell? ⟨gb255, 0, none⟩ = some (.int .i64 0) := (zK BK255.out 0).trans rfl; have hcz56_1 : w54.cell? ⟨gb255, 1, none⟩ = some (.int .i64 0) := (zK BK255.out 1).trans rfl; have hcz56_2 : w54.cell? ⟨gb255, 2, none⟩ = some (.string (⟨#[]⟩ : ByteArray)) := (zK BK255.out 2).trans rfl; have hfz56_0 := zF BK255.out 0; have hfz56_1 := zF BK255.out 1; have hfz56_2 := zF BK255.out 2))
             refine bodyPost_ret (results_ct rfl _ _ gb255 27 #[.int .i64 (wrap64 (rd l0 0)), .int .i64 0, .string (strOfNums ((l0.take ((wrap64 (2 + (wrap64 (rd l0 1)))) : Int).toNat).drop 2))] (0, 0) _ rfl (by (with_reducible repeat (first | refine zX ?_ _ | refine zY ?_ | refine zZ ?_ _)); refine blk_put (cs := #[.int .i64 (wrap64 (rd l0 0)), .int .i64 0, .string (⟨#[]⟩ : ByteArray)]) ?_ 2 _ rfl; (with_reducible repeat (first | refine zX ?_ _ | refine zY ?_ | refine zZ ?_ _)); refine blk_put (cs := #[.int .i64 (wrap64 (rd l0 0)), .int .i64 0, .string (⟨#[]⟩ : ByteArray)]) ?_ 1 _ rfl; (with_reducible repeat (first | refine zX ?_ _ | refine zY ?_ | refine zZ ?_ _)); refine blk_put (cs := #[.int .i64 0, .int .i64 0, .string (⟨#[]⟩ : ByteArray)]) ?_ 0 _ rfl; (with_reducible repeat (first | refine zX ?_ _ | refine zY ?_ | refine zZ ?_ _)); exact BK255.out) Try.underlying27 rfl (by kernel_rfl)) rfl ?_
             exact ⟨by first | rfl | (simp [errW_none, errW_some] <;> rfl) | (simp [*, errW_none, errW_some] <;> rfl), by repeat (first | (with_reducible first | exact HB.out | apply zU | apply zV | apply zW | refine zH ?_ GE255.out | refine zH ?_ GE257.out) | exact HB.out)⟩
            ·
             replace c49 := Bool.eq_false_iff.mpr c49
             subst c49
             have H1 : (some (0, 0, (⟨#[]⟩ : ByteArray), 0)) = some (r1, r2, r3, r4) := by rw [if_neg (show ¬ (false = true) by decide)] at H; exact H
             clear H
             have H := H1
             clear H1
             simp only [Option.some.injEq, Prod.mk.injEq] at H
             obtain ⟨rfl, rfl, rfl, rfl⟩ := H
             have p262 : 0 ≤ (1 : Int) := (by omega)
             have q262 : 1 < (l0.length : Int) := zL (by assumption)
             obtain ⟨ad262, e262, hx262_0⟩ := Kd.at_int HR0.out 1 p262 q262
             obtain rfl : ad256 = ad262 := (by injection e262)
             (try simp only [show (1 : Int).toNat = 1 from rfl, Nat.reduceMul, Nat.reduceEqDiff, Go.Addr.add, ↓reduceIte] at hx262_0)
             have qi262 : (1 < l0.length) = True := eq_true (by omega)
             (try rw [show ((1 : Int)).toNat = 1 from rfl] at hx262_0)
             replace hx262_0 := (HB.out.cell (World.block_lt_of_cell? w _ hx262_0)).trans hx262_0
             replace p262 := eq_true p262
             replace q262 := eq_true q262
             obtain ⟨i057, hi057, _, hsz57, _⟩ := info_parts info5
             obtain ⟨A57, hcut57, hA57, hC57⟩ := print_mid_of (P := Try.prog) (Value.int .u8) 0 25 5 .i64 .i64 Try.underlying25 hi057 hsz57 (some ad256) c0 l0 2 (wrap64 (2 + (wrap64 (rd l0 1)))) (by omega) (by first | omega | exact zL (by assumption)) (zL (by assumption)) HC0.out
             have HR263 := zM (Kd.C_of_reads (h1 := fun _ => rfl) (hA57 _ (Kd.reads_of_C HR0.out)))
             have HC263 := zM hC57
             clear hA57 hC57 hi057 hsz57
             have hcv58 := Kd.C_string (P := Try.prog) (A := A57) (c := (c0 - 2)) Try.underlying25 Try.underlying5 Try.underlying9 (Kd.C_below HR263.out HB.out)
             have hce_ : (wrap64 (2 + (wrap64 (rd l0 1)))) ≤ (l0.length : Int) := zL (by assumption)
             rw [List.length_drop, List.length_take, Nat.min_eq_left (by omega)] at hcv58
             (try simp only [Int.reduceToNat] at hcv58)
             clear hce_
             have hnb59 := NB257_255.out
             have hnc59 := NB255_257.out
             have hcz60_0 : wc.cell? ⟨gb257, 0, none⟩ = some (.int .i64 (wrap64 (rd l0 0))) := (zK BK257.out 0).trans rfl
             have hcz60_1 : wc.cell? ⟨gb257, 1, none⟩ = some (.int .i64 0) := (zK BK257.out 1).trans rfl
             have hcz60_2 : wc.cell? ⟨gb257, 2, none⟩ = some (.string (⟨#[]⟩ : ByteArray)) := (zK BK257.out 2).trans rfl
             have hfz60_0 := zF BK257.out 0
             have hfz60_1 := zF BK257.out 1
             have hfz60_2 := zF BK257.out 2
             go_wp2_with (first | ((with_reducible refine gate_callee (f := 46) rfl ?_); refine goesL_ (some 85) rfl rfl Try.func46 (by kernel_rfl) rfl #[.agg #[.int .i64 (wrap64 (rd l0 0)), .int .i64 0, .string (strOfNums ((l0.take ((wrap64 (2 + (wrap64 (rd l0 1)))) : Int).toNat).drop 2))]] rfl (by (try simp only [List.map_toArray, List.map_cons, List.map_nil]); first | done | rfl | (simp only [List.length_drop, List.length_take]; rfl)) ?_; (with_reducible refine (impl_Value_ok.calls (wrap64 (rd l0 0)) 0 (strOfNums ((l0.take ((wrap64 (2 + (wrap64 (rd l0 1)))) : Int).toNat).drop 2)) false _ A48.out).mono ?_); rintro e w61 ⟨rfl, hb⟩; refine ⟨_, rfl, ?_⟩; have n0_ := zM (zJ (g := gb255) (o := .cells #[.int .i64 0, .int .i64 0, .string (⟨#[]⟩ : ByteArray)] 27 (0, 0)) (by (with_reducible repeat (first | refine zX ?_ _ | refine zY ?_ | refine zZ ?_ _)); refine blk_far ?_ NB255_257.out _; (with_reducible repeat (first | refine zX ?_ _ | refine zY ?_ | refine zZ ?_ _)); exact BK255.out) hb); have n1_ := zM (zJ (g := gb257) (o := .cells #[.int .i64 (wrap64 (rd l0 0)), .int .i64 0, .string (strOfNums ((l0.take ((wrap64 (2 + (wrap64 (rd l0 1)))) : Int).toNat).drop 2))] 27 (0, 0)) (by (with_reducible repeat (first | refine zX ?_ _ | refine zY ?_ | refine zZ ?_ _)); refine blk_put (cs := #[.int .i64 (wrap64 (rd l0 0)), .int .i64 0, .string (⟨#[]⟩ : ByteArray)]) ?_ 2 _ rfl; (with_reducible repeat (first | refine zX ?_ _ | refine zY ?_ | refine zZ ?_ _)); exact BK257.out) hb); have n2_ := zM (zG (by repeat (first | (with_reducible first | exact HB.out | apply zU | apply zV | apply zW | refine zH ?_ GE255.out | refine zH ?_ GE257.out) | exact HB.out)) hb); clear BK255; clear BK257; clear HB; have BK255 := n0_; have BK257 := n1_; have HB := n2_; clear n0_ n1_ n2_; (try clear hb); (try clear hb2); (try clear hk); (try clear hi); have hcz62_0 : w61.cell? ⟨gb255, 0, none⟩ = some (.int .i64 0) := (zK BK255.out 0).trans rfl; have hcz62_1 : w61.cell? ⟨gb255, 1, none⟩ = some (.int .i64 0) := (zK BK255.out 1).trans rfl; have hcz62_2 : w61.cell? ⟨gb255, 2, none⟩ = some (.string (⟨#[]⟩ : ByteArray)) := (zK BK255.out 2).trans rfl; have hfz62_0 := zF BK255.out 0; have hfz62_1 := zF BK255.out 1; have hfz62_2 := zF BK255.out 2))
             refine bodyPost_ret (results_ct rfl _ _ gb255 27 #[.int .i64 0, .int .i64 0, .string (⟨#[]⟩ : ByteArray)] (0, 0) _ rfl (by (with_reducible repeat (first | refine zX ?_ _ | refine zY ?_ | refine zZ ?_ _)); refine blk_put (cs := #[.int .i64 0, .int .i64 0, .string (⟨#[]⟩ : ByteArray)]) ?_ 2 _ rfl; (with_reducible repeat (first | refine zX ?_ _ | refine zY ?_ | refine zZ ?_ _)); refine blk_put (cs := #[.int .i64 0, .int .i64 0, .string (⟨#[]⟩ : ByteArray)]) ?_ 1 _ rfl; (with_reducible repeat (first | refine zX ?_ _ | refine zY ?_ | refine zZ ?_ _)); refine blk_put (cs := #[.int .i64 0, .int .i64 0, .string (⟨#[]⟩ : ByteArray)]) ?_ 0 _ rfl; (with_reducible repeat (first | refine zX ?_ _ | refine zY ?_ | refine zZ ?_ _)); exact BK255.out) Try.underlying27 rfl (by kernel_rfl)) rfl ?_
             exact ⟨by first | rfl | (simp [errW_none, errW_some] <;> rfl) | (simp [*, errW_none, errW_some] <;> rfl), by repeat (first | (with_reducible first | exact HB.out | apply zU | apply zV | apply zW | refine zH ?_ GE255.out | refine zH ?_ GE257.out) | exact HB.out)⟩
           ·
            rw [if_neg c47] at H
            exact absurd H (by simp)
          ·
           rw [if_neg c46] at H
           exact absurd H (by simp)
         ·
          rw [if_neg c45] at H
          exact absurd H (by simp)
        ·
         replace c44 := Bool.eq_false_iff.mpr c44
         subst c44
         have H1 : (if (wrap64 (rd l0 0)) = 3 then (impl_ValueFrom.j2 kj33 l0 1 (decide ((l0.length : Int) > 1)) (wrap64 (rd l0 0)) 0 (⟨#[]⟩ : ByteArray)) else (impl_ValueFrom.j2 kj33 l0 1 false (wrap64 (rd l0 0)) 0 (⟨#[]⟩ : ByteArray))) = some (r1, r2, r3, r4) := by rw [if_neg (show ¬ (false = true) by decide)] at H; exact H
         clear H
         have H := H1
         clear H1
         have HC63 := zM H
         clear H
         go_upto_region 9 with (fail)
         go_cut [65] (fun v65 wc => ∃ (kq : Nat) (x65_62 : Bool), v65 = .bool x65_62 ∧ Aside0 (impl_ValueFrom.j2 kq l0 1 x65_62 (wrap64 (rd l0 0)) 0 (⟨#[]⟩ : ByteArray) = some (r1, r2, r3, r4)) ∧ Aside0 (kq ≤ kj33) ∧ Aside0 (wc.heap[gb255]? = some (.cells #[.int .i64 0, .int .i64 0, .string (⟨#[]⟩ : ByteArray)] 27 (0, 0))) ∧ Aside0 (wc.heap[gb257]? = some (.cells #[.int .i64 (wrap64 (rd l0 0)), .int .i64 0, .string (⟨#[]⟩ : ByteArray)] 27 (0, 0))) ∧ Aside0 (Below w.heap.size w wc))
         case first =>
          have H := HC63.out
          clear HC63
          by_cases c64 : (wrap64 (rd l0 0)) = 3
          ·
           rw [if_pos c64] at H
           have c64b0 : ((wrap64 (rd l0 0)) == 3) = true := beq_iff_eq.mpr c64
           have c64b1 : ((wrap64 (rd l0 0)) != 3) = false := bne_eq_false_iff_eq.mpr c64
           clear c64
           (first | rw [c64b0] | (simp only [i64_w, i32_w]; rw [c64b0]) | skip)
           have H' := zM H
           clear H
           have hnb65 := NB257_255.out
           have hnc65 := NB255_257.out
           have hcz66_0 : wc.cell? ⟨gb257, 0, none⟩ = some (.int .i64 (wrap64 (rd l0 0))) := (zK BK257.out 0).trans rfl
           have hcz66_1 : wc.cell? ⟨gb257, 1, none⟩ = some (.int .i64 0) := (zK BK257.out 1).trans rfl
           have hcz66_2 : wc.cell? ⟨gb257, 2, none⟩ = some (.string (⟨#[]⟩ : ByteArray)) := (zK BK257.out 2).trans rfl
           have hfz66_0 := zF BK257.out 0
           have hfz66_1 := zF BK257.out 1
           have hfz66_2 := zF BK257.out 2
           go_wp2
           go_meet
           case rel => exact ⟨_, (decide ((l0.length : Int) > 1)), (by first | rfl | (simp; done) | (simp [*]; done)), H', ⟨by have := HJ5.out; have := HJ33.out; first | omega | exact Nat.le_refl _⟩, ⟨by (with_reducible repeat (first | refine zX ?_ _ | refine zY ?_ | refine zZ ?_ _)); exact BK255.out⟩, ⟨by (with_reducible repeat (first | refine zX ?_ _ | refine zY ?_ | refine zZ ?_ _)); exact BK257.out⟩, ⟨by repeat (first | (with_reducible first | exact HB.out | apply zU | apply zV | apply zW | refine zH ?_ GE255.out | refine zH ?_ GE257.out) | exact HB.out)⟩⟩
          ·
           rw [if_neg c64] at H
           have c64b0 : ((wrap64 (rd l0 0)) == 3) = false := beq_eq_false_iff_ne.mpr c64
           have c64b1 : ((wrap64 (rd l0 0)) != 3) = true := bne_iff_ne.mpr c64
           (first | rw [c64b0] | (simp only [i64_w, i32_w]; rw [c64b0]) | skip)
           have H' := zM H
           clear H
           have hnb67 := NB257_255.out
           have hnc67 := NB255_257.out
           have hcz68_0 : wc.cell? ⟨gb257, 0, none⟩ = some (.int .i64 (wrap64 (rd l0 0))) := (zK BK257.out 0).trans rfl
           have hcz68_1 : wc.cell? ⟨gb257, 1, none⟩ = some (.int .i64 0) := (zK BK257.out 1).trans rfl
           have hcz68_2 : wc.cell? ⟨gb257, 2, none⟩ = some (.string (⟨#[]⟩ : ByteArray)) := (zK BK257.out 2).trans rfl
           have hfz68_0 := zF BK257.out 0
           have hfz68_1 := zF BK257.out 1
           have hfz68_2 := zF BK257.out 2
           go_wp2
           go_meet
           case rel => exact ⟨_, (false), (by first | rfl | (simp; done) | (simp [*]; done)), H', ⟨by have := HJ5.out; have := HJ33.out; first | omega | exact Nat.le_refl _⟩, ⟨by (with_reducible repeat (first | refine zX ?_ _ | refine zY ?_ | refine zZ ?_ _)); exact BK255.out⟩, ⟨by (with_reducible repeat (first | refine zX ?_ _ | refine zY ?_ | refine zZ ?_ _)); exact BK257.out⟩, ⟨by repeat (first | (with_reducible first | exact HB.out | apply zU | apply zV | apply zW | refine zH ?_ GE255.out | refine zH ?_ GE257.out) | exact HB.out)⟩⟩
         case rest =>
          clear HC63
          try clear c1
          try clear c2
          try clear c2b0
          try clear c2b1
          try clear c2b2
          try clear p2
          try clear q2
          try clear hx2
          try clear qi2
          try clear c3
          try clear c4
          try clear c5
          try clear c5b0
          try clear c5b1
          try clear hcv5
          try clear c6
          try clear p6
          try clear c9
          try clear c11
          try clear c11b0
          try clear c11b1
          try clear c12
          try clear c14
          try clear c16
          try clear c17
          try clear c17b0
          try clear c17b1
          try clear c18
          try clear c18b0
          try clear c18b1
          try clear c20
          try clear c23
          try clear p25
          try clear q25
          try clear hx25
          try clear qi25
          try clear c26
          try clear p26
          try clear q26
          try clear hx26
          try clear qi26
          try clear c30
          try clear c35
          try clear c35b0
          try clear c35b1
          try clear c36
          try clear c36b0
          try clear c36b1
          try clear c37
          try clear c37b0
          try clear c37b1
          try clear c38
          try clear c40
          try clear c42
          try clear c44
          try clear c45
          try clear c45b0
          try clear c45b1
          try clear c46
          try clear c46b0
          try clear c46b1
          try clear c47
          try clear c47b0
          try clear c47b1
          try clear c49
          try clear hcv51
          try clear c52
          try clear hcv58
          try clear c59
          try clear c64
          try clear c64b0
          try clear c64b1
          try clear p64
          try clear c65
          try clear c67
          try clear hcz10_0
          try clear hcz10_1
          try clear hcz10_2
          try clear hcz13_0
          try clear hcz13_1
          try clear hcz13_2
          try clear hcz15_0
          try clear hcz15_1
          try clear hcz15_2
          try clear hcz24_0
          try clear hcz24_1
          try clear hcz24_2
          try clear hcz26_0
          try clear hcz26_1
          try clear hcz26_2
          try clear hcz27_0
          try clear hcz27_1
          try clear hcz27_2
          try clear hcz31_0
          try clear hcz31_1
          try clear hcz31_2
          try clear hcz33_0
          try clear hcz33_1
          try clear hcz33_2
          try clear hcz39_0
          try clear hcz39_1
          try clear hcz39_2
          try clear hcz41_0
          try clear hcz41_1
          try clear hcz41_2
          try clear hcz43_0
          try clear hcz43_1
          try clear hcz43_2
          try clear hcz4_0
          try clear hcz4_1
          try clear hcz4_2
          try clear hcz53_0
          try clear hcz53_1
          try clear hcz53_2
          try clear hcz55_0
          try clear hcz55_1
          try clear hcz55_2
          try clear hcz56_0
          try clear hcz56_1
          try clear hcz56_2
          try clear hcz60_0
          try clear hcz60_1
          try clear hcz60_2
          try clear hcz62_0
          try clear hcz62_1
          try clear hcz62_2
          try clear hcz66_0
          try clear hcz66_1
          try clear hcz66_2
          try clear hcz68_0
          try clear hcz68_1
          try clear hcz68_2
          try clear hfz10_0
          try clear hfz10_1
          try clear hfz10_2
          try clear hfz13_0
          try clear hfz13_1
          try clear hfz13_2
          try clear hfz15_0
          try clear hfz15_1
          try clear hfz15_2
          try clear hfz24_0
          try clear hfz24_1
          try clear hfz24_2
          try clear hfz26_0
          try clear hfz26_1
          try clear hfz26_2
          try clear hfz27_0
          try clear hfz27_1
          try clear hfz27_2
          try clear hfz31_0
          try clear hfz31_1
          try clear hfz31_2
          try clear hfz33_0
          try clear hfz33_1
          try clear hfz33_2
          try clear hfz39_0
          try clear hfz39_1
          try clear hfz39_2
          try clear hfz41_0
          try clear hfz41_1
          try clear hfz41_2
          try clear hfz43_0
          try clear hfz43_1
          try clear hfz43_2
          try clear hfz4_0
          try clear hfz4_1
          try clear hfz4_2
          try clear hfz53_0
          try clear hfz53_1
          try clear hfz53_2
          try clear hfz55_0
          try clear hfz55_1
          try clear hfz55_2
          try clear hfz56_0
          try clear hfz56_1
          try clear hfz56_2
          try clear hfz60_0
          try clear hfz60_1
          try clear hfz60_2
          try clear hfz62_0
          try clear hfz62_1
          try clear hfz62_2
          try clear hfz66_0
          try clear hfz66_1
          try clear hfz66_2
          try clear hfz68_0
          try clear hfz68_1
          try clear hfz68_2
          try clear hx256_0
          try clear hx258_0
          try clear hx259_0
          try clear hx261_0
          try clear hx262_0
          try clear p2
          try clear p25
          try clear p256
          try clear p258
          try clear p259
          try clear p26
          try clear p261
          try clear p262
          try clear p6
          try clear q2
          try clear q25
          try clear q256
          try clear q258
          try clear q259
          try clear q26
          try clear q261
          try clear q262
          obtain ⟨kq, x65_62, rfl, HA, HJ62, BK255, BK257, HB⟩ := hcut
          cases kq with
          | zero => exact absurd HA.out (by simp [impl_ValueFrom.j2])
          | succ kj62 =>
           have H := HA.out
           clear HA
           simp only [impl_ValueFrom.j2] at H
           by_cases c69 : x65_62 = true
           ·
            subst c69
            have H1 : (if 1 < (l0.length : Int) then ((impl_Value_ok.f (wrap64 (rd l0 0)) (wrap64 (rd l0 1)) (⟨#[]⟩ : ByteArray)).bind fun t266 => (if t266 = true then (some ((wrap64 (rd l0 0)), wrap64 (rd l0 1), (⟨#[]⟩ : ByteArray), 2)) else (some (0, 0, (⟨#[]⟩ : ByteArray), 0)))) else (none)) = some (r1, r2, r3, r4) := by rw [if_pos rfl] at H; exact H
            clear H
            have H := H1
            clear H1
            by_cases c70 : 1 < (l0.length : Int)
            ·
             rw [if_pos c70] at H
             have c70b0 : decide (1 < (l0.length : Int)) = true := decide_eq_true c70
             have c70b1 : decide (1 < l0.length) = true := decide_eq_true (by omega)
             clear c70
             replace H := Option.bind_eq_some_iff.mp H
             obtain ⟨t266, A710, H⟩ := H
             replace H : (if t266 = true then (some ((wrap64 (rd l0 0)), wrap64 (rd l0 1), (⟨#[]⟩ : ByteArray), 2)) else (some (0, 0, (⟨#[]⟩ : ByteArray), 0))) = some (r1, r2, r3, r4) := H
             have A71 := zM A710
             clear A710
             by_cases c72 : t266 = true
             ·
              subst c72
              have H1 : (some ((wrap64 (rd l0 0)), wrap64 (rd l0 1), (⟨#[]⟩ : ByteArray), 2)) = some (r1, r2, r3, r4) := by rw [if_pos rfl] at H; exact H
              clear H
              have H := H1
              clear H1
              simp only [Option.some.injEq, Prod.mk.injEq] at H
              obtain ⟨rfl, rfl, rfl, rfl⟩ := H
              have p265 : 0 ≤ (1 : Int) := (by omega)
              have q265 : 1 < (l0.length : Int) := zL (by assumption)
              obtain ⟨ad265, e265, hx265_0⟩ := Kd.at_int HR0.out 1 p265 q265
              obtain rfl : ad256 = ad265 := (by injection e265)
              (try simp only [show (1 : Int).toNat = 1 from rfl, Nat.reduceMul, Nat.reduceEqDiff, Go.Addr.add, ↓reduceIte] at hx265_0)
              have qi265 : (1 < l0.length) = True := eq_true (by omega)
              (try rw [show ((1 : Int)).toNat = 1 from rfl] at hx265_0)
              replace hx265_0 := (HB.out.cell (World.block_lt_of_cell? w _ hx265_0)).trans hx265_0
              replace p265 := eq_true p265
              replace q265 := eq_true q265
              have hnb73 := NB257_255.out
              have hnc73 := NB255_257.out
              have hcz74_0 : wc.cell? ⟨gb257, 0, none⟩ = some (.int .i64 (wrap64 (rd l0 0))) := (zK BK257.out 0).trans rfl
              have hcz74_1 : wc.cell? ⟨gb257, 1, none⟩ = some (.int .i64 0) := (zK BK257.out 1).trans rfl
              have hcz74_2 : wc.cell? ⟨gb257, 2, none⟩ = some (.string (⟨#[]⟩ : ByteArray)) := (zK BK257.out 2).trans rfl
              have hfz74_0 := zF BK257.out 0
              have hfz74_1 := zF BK257.out 1
              have hfz74_2 := zF BK257.out 2
              go_wp2_with (first | ((with_reducible refine gate_callee (f := 46) rfl ?_); refine goesL_ (some 85) rfl rfl Try.func46 (by kernel_rfl) rfl #[.agg #[.int .i64 (wrap64 (rd l0 0)), .int .i64 (wrap64 (rd l0 1)), .string (⟨#[]⟩ : ByteArray)]] rfl (by (try simp only [List.map_toArray, List.map_cons, List.map_nil]); first | done | rfl | (simp only [List.length_drop, List.length_take]; rfl)) ?_; (with_reducible refine (impl_Value_ok.calls (wrap64 (rd l0 0)) (wrap64 (rd l0 1)) (⟨#[]⟩ : ByteArray) true _ A71.out).mono ?_); rintro e w75 ⟨rfl, hb⟩; refine ⟨_, rfl, ?_⟩; have n0_ := zM (zJ (g := gb255) (o := .cells #[.int .i64 0, .int .i64 0, .string (⟨#[]⟩ : ByteArray)] 27 (0, 0)) (by (with_reducible repeat (first | refine zX ?_ _ | refine zY ?_ | refine zZ ?_ _)); refine blk_far ?_ NB255_257.out _; (with_reducible repeat (first | refine zX ?_ _ | refine zY ?_ | refine zZ ?_ _)); exact BK255.out) hb); have n1_ := zM (zJ (g := gb257) (o := .cells #[.int .i64 (wrap64 (rd l0 0)), .int .i64 (wrap64 (rd l0 1)), .string (⟨#[]⟩ : ByteArray)] 27 (0, 0)) (by (with_reducible repeat (first | refine zX ?_ _ | refine zY ?_ | refine zZ ?_ _)); refine blk_put (cs := #[.int .i64 (wrap64 (rd l0 0)), .int .i64 0, .string (⟨#[]⟩ : ByteArray)]) ?_ 1 _ rfl; (with_reducible repeat (first | refine zX ?_ _ | refine zY ?_ | refine zZ ?_ _)); exact BK257.out) hb); have n2_ := zM (zG (by repeat (first | (with_reducible first | exact HB.out | apply zU | apply zV | apply zW | refine zH ?_ GE255.out | refine zH ?_ GE257.out) | exact HB.out)) hb); clear BK255; clear BK257; clear HB; have BK255 := n0_; have BK257 := n1_; have HB := n2_; clear n0_ n1_ n2_; (try clear hb); (try clear hb2); (try clear hk); (try clear hi); have hcz76_0 : w75.cell? ⟨gb257, 0, none⟩ = some (.int .i64 (wrap64 (rd l0 0))) := (zK BK257.out 0).trans rfl; have hcz76_1 : w75.cell? ⟨gb257, 1, none⟩ = some (.int .i64 (wrap64 (rd l0 1))) := (zK BK257.out 1).trans rfl; have hcz76_2 : w75.cell? ⟨gb257, 2, none⟩ = some (.string (⟨#[]⟩ : ByteArray)) := (zK BK257.out 2).trans rfl; have hfz76_0 := zF BK257.out 0; have hfz76_1 := zF BK257.out 1; have hfz76_2 := zF BK257.out 2; have hcz77_0 : w75.cell? ⟨gb255, 0, none⟩ = some (.int .i64 0) := (zK BK255.out 0).trans rfl; have hcz77_1 : w75.cell? ⟨gb255, 1, none⟩ = some (.int .i64 0) := (zK BK255.out 1).trans rfl; have hcz77_2 : w75.cell? ⟨gb255, 2, none⟩ = some (.string (⟨#[]⟩ : ByteArray)) := (zK BK255.out 2).trans rfl; have hfz77_0 := zF BK255.out 0; have hfz77_1 := zF BK255.out 1; have hfz77_2 := zF BK255.out 2))
              refine bodyPost_ret (results_ct rfl _ _ gb255 27 #[.int .i64 (wrap64 (rd l0 0)), .int .i64 (wrap64 (rd l0 1)), .string (⟨#[]⟩ : ByteArray)] (0, 0) _ rfl (by (with_reducible repeat (first | refine zX ?_ _ | refine zY ?_ | refine zZ ?_ _)); refine blk_put (cs := #[.int .i64 (wrap64 (rd l0 0)), .int .i64 (wrap64 (rd l0 1)), .string (⟨#[]⟩ : ByteArray)]) ?_ 2 _ rfl; (with_reducible repeat (first | refine zX ?_ _ | refine zY ?_ | refine zZ ?_ _)); refine blk_put (cs := #[.int .i64 (wrap64 (rd l0 0)), .int .i64 0, .string (⟨#[]⟩ : ByteArray)]) ?_ 1 _ rfl; (with_reducible repeat (first | refine zX ?_ _ | refine zY ?_ | refine zZ ?_ _)); refine blk_put (cs := #[.int .i64 0, .int .i64 0, .string (⟨#[]⟩ : ByteArray)]) ?_ 0 _ rfl; (with_reducible repeat (first | refine zX ?_ _ | refine zY ?_ | refine zZ ?_ _)); exact BK255.out) Try.underlying27 rfl (by kernel_rfl)) rfl ?_
              exact ⟨by first | rfl | (simp [errW_none, errW_some] <;> rfl) | (simp [*, errW_none, errW_some] <;> rfl), by repeat (first | (with_reducible first | exact HB.out | apply zU | apply zV | apply zW | refine zH ?_ GE255.out | refine zH ?_ GE257.out) | exact HB.out)⟩
             ·
              replace c72 := Bool.eq_false_iff.mpr c72
              subst c72
              have H1 : (some (0, 0, (⟨#[]⟩ : ByteArray), 0)) = some (r1, r2, r3, r4) := by rw [if_neg (show ¬ (false = true) by decide)] at H; exact H
              clear H
              have H := H1
              clear H1
              simp only [Option.some.injEq, Prod.mk.injEq] at H
              obtain ⟨rfl, rfl, rfl, rfl⟩ := H
              have p265 : 0 ≤ (1 : Int) := (by omega)
              have q265 : 1 < (l0.length : Int) := zL (by assumption)
              obtain ⟨ad265, e265, hx265_0⟩ := Kd.at_int HR0.out 1 p265 q265
              obtain rfl : ad256 = ad265 := (by injection e265)
              (try simp only [show (1 : Int).toNat = 1 from rfl, Nat.reduceMul, Nat.reduceEqDiff, Go.Addr.add, ↓reduceIte] at hx265_0)
              have qi265 : (1 < l0.length) = True := eq_true (by omega)
              (try rw [show ((1 : Int)).toNat = 1 from rfl] at hx265_0)
              replace hx265_0 := (HB.out.cell (World.block_lt_of_cell? w _ hx265_0)).trans hx265_0
              replace p265 := eq_true p265
              replace q265 := eq_true q265
              have hnb78 := NB257_255.out
              have hnc78 := NB255_257.out
              have hcz79_0 : wc.cell? ⟨gb257, 0, none⟩ = some (.int .i64 (wrap64 (rd l0 0))) := (zK BK257.out 0).trans rfl
              have hcz79_1 : wc.cell? ⟨gb257, 1, none⟩ = some (.int .i64 0) := (zK BK257.out 1).trans rfl
              have hcz79_2 : wc.cell? ⟨gb257, 2, none⟩ = some (.string (⟨#[]⟩ : ByteArray)) := (zK BK257.out 2).trans rfl
              have hfz79_0 := zF BK257.out 0
              have hfz79_1 := zF BK257.out 1
              have hfz79_2 := zF BK257.out 2
              go_wp2_with (first | ((with_reducible refine gate_callee (f := 46) rfl ?_); refine goesL_ (some 85) rfl rfl Try.func46 (by kernel_rfl) rfl #[.agg #[.int .i64 (wrap64 (rd l0 0)), .int .i64 (wrap64 (rd l0 1)), .string (⟨#[]⟩ : ByteArray)]] rfl (by (try simp only [List.map_toArray, List.map_cons, List.map_nil]); first | done | rfl | (simp only [List.length_drop, List.length_take]; rfl)) ?_; (with_reducible refine (impl_Value_ok.calls (wrap64 (rd l0 0)) (wrap64 (rd l0 1)) (⟨#[]⟩ : ByteArray) false _ A71.out).mono ?_); rintro e w80 ⟨rfl, hb⟩; refine ⟨_, rfl, ?_⟩; have n0_ := zM (zJ (g := gb255) (o := .cells #[.int .i64 0, .int .i64 0, .string (⟨#[]⟩ : ByteArray)] 27 (0, 0)) (by (with_reducible repeat (first | refine zX ?_ _ | refine zY ?_ | refine zZ ?_ _)); refine blk_far ?_ NB255_257.out _; (with_reducible repeat (first | refine zX ?_ _ | refine zY ?_ | refine zZ ?_ _)); exact BK255.out) hb); have n1_ := zM (zJ (g := gb257) (o := .cells #[.int .i64 (wrap64 (rd l0 0)), .int .i64 (wrap64 (rd l0 1)), .string (⟨#[]⟩ : ByteArray)] 27 (0, 0)) (by (with_reducible repeat (first | refine zX ?_ _ | refine zY ?_ | refine zZ ?_ _)); refine blk_put (cs := #[.int .i64 (wrap64 (rd l0 0)), .int .i64 0, .string (⟨#[]⟩ : ByteArray)]) ?_ 1 _ rfl; (with_reducible repeat (first | refine zX ?_ _ | refine zY ?_ | refine zZ ?_ _)); exact BK257.out) hb); have n2_ := zM (zG (by repeat (first | (with_reducible first | exact HB.out | apply zU | apply zV | apply zW | refine zH ?_ GE255.out | refine zH ?_ GE257.out) | exact HB.out)) hb); clear BK255; clear BK257; clear HB; have BK255 := n0_; have BK257 := n1_; have HB := n2_; clear n0_ n1_ n2_; (try clear hb); (try clear hb2); (try clear hk); (try clear hi); have hcz81_0 : w80.cell? ⟨gb255, 0, none⟩ = some (.int .i64 0) := (zK BK255.out 0).trans rfl; have hcz81_1 : w80.cell? ⟨gb255, 1, none⟩ = some (.int .i64 0) := (zK BK255.out 1).trans rfl; have hcz81_2 : w80.cell? ⟨gb255, 2, none⟩ = some (.string (⟨#[]⟩ : ByteArray)) := (zK BK255.out 2).trans rfl; have hfz81_0 := zF BK255.out 0; have hfz81_1 := zF BK255.out 1; have hfz81_2 := zF BK255.out 2))
              refine bodyPost_ret (results_ct rfl _ _ gb255 27 #[.int .i64 0, .int .i64 0, .string (⟨#[]⟩ : ByteArray)] (0, 0) _ rfl (by (with_reducible repeat (first | refine zX ?_ _ | refine zY ?_ | refine zZ ?_ _)); refine blk_put (cs := #[.int .i64 0, .int .i64 0, .string (⟨#[]⟩ : ByteArray)]) ?_ 2 _ rfl; (with_reducible repeat (first | refine zX ?_ _ | refine zY ?_ | refine zZ ?_ _)); refine blk_put (cs := #[.int .i64 0, .int .i64 0, .string (⟨#[]⟩ : ByteArray)]) ?_ 1 _ rfl; (with_reducible repeat (first | refine zX ?_ _ | refine zY ?_ | refine zZ ?_ _)); refine blk_put (cs := #[.int .i64 0, .int .i64 0, .string (⟨#[]⟩ : ByteArray)]) ?_ 0 _ rfl; (with_reducible repeat (first | refine zX ?_ _ | refine zY ?_ | refine zZ ?_ _)); exact BK255.out) Try.underlying27 rfl (by kernel_rfl)) rfl ?_
              exact ⟨by first | rfl | (simp [errW_none, errW_some] <;> rfl) | (simp [*, errW_none, errW_some] <;> rfl), by repeat (first | (with_reducible first | exact HB.out | apply zU | apply zV | apply zW | refine zH ?_ GE255.out | refine zH ?_ GE257.out) | exact HB.out)⟩
            ·
             rw [if_neg c70] at H
             exact absurd H (by simp)
           ·
            replace c69 := Bool.eq_false_iff.mpr c69
            subst c69
            have H1 : (if (wrap64 (rd l0 0)) = 0 then ((impl_Value_ok.f (wrap64 (rd l0 0)) 0 (⟨#[]⟩ : ByteArray)).bind fun t267 => (if t267 = true then (some ((wrap64 (rd l0 0)), 0, (⟨#[]⟩ : ByteArray), 1)) else (some (0, 0, (⟨#[]⟩ : ByteArray), 0)))) else (some (0, 0, (⟨#[]⟩ : ByteArray), 0))) = some (r1, r2, r3, r4) := by rw [if_neg (show ¬ (false = true) by decide)] at H; exact H
            clear H
            have H := H1
            clear H1
            by_cases c82 : (wrap64 (rd l0 0)) = 0
            ·
             rw [if_pos c82] at H
             have c82b0 : ((wrap64 (rd l0 0)) == 0) = true := beq_iff_eq.mpr c82
             have c82b1 : ((wrap64 (rd l0 0)) != 0) = false := bne_eq_false_iff_eq.mpr c82
             clear c82
             replace H := Option.bind_eq_some_iff.mp H
             obtain ⟨t267, A830, H⟩ := H
             replace H : (if t267 = true then (some ((wrap64 (rd l0 0)), 0, (⟨#[]⟩ : ByteArray), 1)) else (some (0, 0, (⟨#[]⟩ : ByteArray), 0))) = some (r1, r2, r3, r4) := H
             have A83 := zM A830
             clear A830
             by_cases c84 : t267 = true
             ·
              subst c84
              have H1 : (some ((wrap64 (rd l0 0)), 0, (⟨#[]⟩ : ByteArray), 1)) = some (r1, r2, r3, r4) := by rw [if_pos rfl] at H; exact H
              clear H
              have H := H1
              clear H1
              simp only [Option.some.injEq, Prod.mk.injEq] at H
              obtain ⟨rfl, rfl, rfl, rfl⟩ := H
              have hnb85 := NB257_255.out
              have hnc85 := NB255_257.out
              have hcz86_0 : wc.cell? ⟨gb257, 0, none⟩ = some (.int .i64 (wrap64 (rd l0 0))) := (zK BK257.out 0).trans rfl
              have hcz86_1 : wc.cell? ⟨gb257, 1, none⟩ = some (.int .i64 0) := (zK BK257.out 1).trans rfl
              have hcz86_2 : wc.cell? ⟨gb257, 2, none⟩ = some (.string (⟨#[]⟩ : ByteArray)) := (zK BK257.out 2).trans rfl
              have hfz86_0 := zF BK257.out 0
              have hfz86_1 := zF BK257.out 1
              have hfz86_2 := zF BK257.out 2
              go_wp2_with (first | ((with_reducible refine gate_callee (f := 46) rfl ?_); refine goesL_ (some 85) rfl rfl Try.func46 (by kernel_rfl) rfl #[.agg #[.int .i64 (wrap64 (rd l0 0)), .int .i64 0, .string (⟨#[]⟩ : ByteArray)]] rfl (by (try simp only [List.map_toArray, List.map_cons, List.map_nil]); first | done | rfl | (simp only [List.length_drop, List.length_take]; rfl)) ?_; (with_reducible refine (impl_Value_ok.calls (wrap64 (rd l0 0)) 0 (⟨#[]⟩ : ByteArray) true _ A83.out).mono ?_); rintro e w87 ⟨rfl, hb⟩; refine ⟨_, rfl, ?_⟩; have n0_ := zM (zJ (g := gb255) (o := .cells #[.int .i64 0, .int .i64 0, .string (⟨#[]⟩ : ByteArray)] 27 (0, 0)) (by (with_reducible repeat (first | refine zX ?_ _ | refine zY ?_ | refine zZ ?_ _)); exact BK255.out) hb); have n1_ := zM (zJ (g := gb257) (o := .cells #[.int .i64 (wrap64 (rd l0 0)), .int .i64 0, .string (⟨#[]⟩ : ByteArray)] 27 (0, 0)) (by (with_reducible repeat (first | refine zX ?_ _ | refine zY ?_ | refine zZ ?_ _)); exact BK257.out) hb); have n2_ := zM (zG (by repeat (first | (with_reducible first | exact HB.out | apply zU | apply zV | apply zW | refine zH ?_ GE255.out | refine zH ?_ GE257.out) | exact HB.out)) hb); clear BK255; clear BK257; clear HB; have BK255 := n0_; have BK257 := n1_; have HB := n2_; clear n0_ n1_ n2_; (try clear hb); (try clear hb2); (try clear hk); (try clear hi); have hcz88_0 : w87.cell? ⟨gb257, 0, none⟩ = some (.int .i64 (wrap64 (rd l0 0))) := (zK BK257.out 0).trans rfl; have hcz88_1 : w87.cell? ⟨gb257, 1, none⟩ = some (.int .i64 0) := (zK BK257.out 1).trans rfl; have hcz88_2 : w87.cell? ⟨gb257, 2, none⟩ = some (.string (⟨#[]⟩ : ByteArray)) := (zK BK257.out 2).trans rfl; have hfz88_0 := zF BK257.out 0; have hfz88_1 := zF BK257.out 1; have hfz88_2 := zF BK257.out 2; have hcz89_0 : w87.cell? ⟨gb255, 0, none⟩ = some (.int .i64 0) := (zK BK255.out 0).trans rfl; have hcz89_1 : w87.cell? ⟨gb255, 1, none⟩ = some (.int .i64 0) := (zK BK255.out 1).trans rfl; have hcz89_2 : w87.cell? ⟨gb255, 2, none⟩ = some (.string (⟨#[]⟩ : ByteArray)) := (zK BK255.out 2).trans rfl; have hfz89_0 := zF BK255.out 0; have hfz89_1 := zF BK255.out 1; have hfz89_2 := zF BK255.out 2))
              refine bodyPost_ret (results_ct rfl _ _ gb255 27 #[.int .i64 (wrap64 (rd l0 0)), .int .i64 0, .string (⟨#[]⟩ : ByteArray)] (0, 0) _ rfl (by (with_reducible repeat (first | refine zX ?_ _ | refine zY ?_ | refine zZ ?_ _)); refine blk_put (cs := #[.int .i64 (wrap64 (rd l0 0)), .int .i64 0, .string (⟨#[]⟩ : ByteArray)]) ?_ 2 _ rfl; (with_reducible repeat (first | refine zX ?_ _ | refine zY ?_ | refine zZ ?_ _)); refine blk_put (cs := #[.int .i64 (wrap64 (rd l0 0)), .int .i64 0, .string (⟨#[]⟩ : ByteArray)]) ?_ 1 _ rfl; (with_reducible repeat (first | refine zX ?_ _ | refine zY ?_ | refine zZ ?_ _)); refine blk_put (cs := #[.int .i64 0, .int .i64 0, .string (⟨#[]⟩ : ByteArray)]) ?_ 0 _ rfl; (with_reducible repeat (first | refine zX ?_ _ | refine zY ?_ | refine zZ ?_ _)); exact BK255.out) Try.underlying27 rfl (by kernel_rfl)) rfl ?_
              exact ⟨by first | rfl | (simp [errW_none, errW_some] <;> rfl) | (simp [*, errW_none, errW_some] <;> rfl), by repeat (first | (with_reducible first | exact HB.out | apply zU | apply zV | apply zW | refine zH ?_ GE255.out | refine zH ?_ GE257.out) | exact HB.out)⟩
             ·
              replace c84 := Bool.eq_false_iff.mpr c84
              subst c84
              have H1 : (some (0, 0, (⟨#[]⟩ : ByteArray), 0)) = some (r1, r2, r3, r4) := by rw [if_neg (show ¬ (false = true) by decide)] at H; exact H
              clear H
              have H := H1
              clear H1
              simp only [Option.some.injEq, Prod.mk.injEq] at H
              obtain ⟨rfl, rfl, rfl, rfl⟩ := H
              have hnb90 := NB257_255.out
              have hnc90 := NB255_257.out
              have hcz91_0 : wc.cell? ⟨gb257, 0, none⟩ = some (.int .i64 (wrap64 (rd l0 0))) := (zK BK257.out 0).trans rfl
              have hcz91_1 : wc.cell? ⟨gb257, 1, none⟩ = some (.int .i64 0) := (zK BK257.out 1).trans rfl
              have hcz91_2 : wc.cell? ⟨gb257, 2, none⟩ = some (.string (⟨#[]⟩ : ByteArray)) := (zK BK257.out 2).trans rfl
              have hfz91_0 := zF BK257.out 0
              have hfz91_1 := zF BK257.out 1
              have hfz91_2 := zF BK257.out 2
              go_wp2_with (first | ((with_reducible refine gate_callee (f := 46) rfl ?_); refine goesL_ (some 85) rfl rfl Try.func46 (by kernel_rfl) rfl #[.agg #[.int .i64 (wrap64 (rd l0 0)), .int .i64 0, .string (⟨#[]⟩ : ByteArray)]] rfl (by (try simp only [List.map_toArray, List.map_cons, List.map_nil]); first | done | rfl | (simp only [List.length_drop, List.length_take]; rfl)) ?_; (with_reducible refine (impl_Value_ok.calls (wrap64 (rd l0 0)) 0 (⟨#[]⟩ : ByteArray) false _ A83.out).mono ?_); rintro e w92 ⟨rfl, hb⟩; refine ⟨_, rfl, ?_⟩; have n0_ := zM (zJ (g := gb255) (o := .cells #[.int .i64 0, .int .i64 0, .string (⟨#[]⟩ : ByteArray)] 27 (0, 0)) (by (with_reducible repeat (first | refine zX ?_ _ | refine zY ?_ | refine zZ ?_ _)); exact BK255.out) hb); have n1_ := zM (zJ (g := gb257) (o := .cells #[.int .i64 (wrap64 (rd l0 0)), .int .i64 0, .string (⟨#[]⟩ : ByteArray)] 27 (0, 0)) (by (with_reducible repeat (first | refine zX ?_ _ | refine zY ?_ | refine zZ ?_ _)); exact BK257.out) hb); have n2_ := zM (zG (by repeat (first | (with_reducible first | exact HB.out | apply zU | apply zV | apply zW | refine zH ?_ GE255.out | refine zH ?_ GE257.out) | exact HB.out)) hb); clear BK255; clear BK257; clear HB; have BK255 := n0_; have BK257 := n1_; have HB := n2_; clear n0_ n1_ n2_; (try clear hb); (try clear hb2); (try clear hk); (try clear hi); have hcz93_0 : w92.cell? ⟨gb255, 0, none⟩ = some (.int .i64 0) := (zK BK255.out 0).trans rfl; have hcz93_1 : w92.cell? ⟨gb255, 1, none⟩ = some (.int .i64 0) := (zK BK255.out 1).trans rfl; have hcz93_2 : w92.cell? ⟨gb255, 2, none⟩ = some (.string (⟨#[]⟩ : ByteArray)) := (zK BK255.out 2).trans rfl; have hfz93_0 := zF BK255.out 0; have hfz93_1 := zF BK255.out 1; have hfz93_2 := zF BK255.out 2))
              refine bodyPost_ret (results_ct rfl _ _ gb255 27 #[.int .i64 0, .int .i64 0, .string (⟨#[]⟩ : ByteArray)] (0, 0) _ rfl (by (with_reducible repeat (first | refine zX ?_ _ | refine zY ?_ | refine zZ ?_ _)); refine blk_put (cs := #[.int .i64 0, .int .i64 0, .string (⟨#[]⟩ : ByteArray)]) ?_ 2 _ rfl; (with_reducible repeat (first | refine zX ?_ _ | refine zY ?_ | refine zZ ?_ _)); refine blk_put (cs := #[.int .i64 0, .int .i64 0, .string (⟨#[]⟩ : ByteArray)]) ?_ 1 _ rfl; (with_reducible repeat (first | refine zX ?_ _ | refine zY ?_ | refine zZ ?_ _)); refine blk_put (cs := #[.int .i64 0, .int .i64 0, .string (⟨#[]⟩ : ByteArray)]) ?_ 0 _ rfl; (with_reducible repeat (first | refine zX ?_ _ | refine zY ?_ | refine zZ ?_ _)); exact BK255.out) Try.underlying27 rfl (by kernel_rfl)) rfl ?_
              exact ⟨by first | rfl | (simp [errW_none, errW_some] <;> rfl) | (simp [*, errW_none, errW_some] <;> rfl), by repeat (first | (with_reducible first | exact HB.out | apply zU | apply zV | apply zW | refine zH ?_ GE255.out | refine zH ?_ GE257.out) | exact HB.out)⟩
            ·
             rw [if_neg c82] at H
             have c82b0 : ((wrap64 (rd l0 0)) == 0) = false := beq_eq_false_iff_ne.mpr c82
             have c82b1 : ((wrap64 (rd l0 0)) != 0) = true := bne_iff_ne.mpr c82
             simp only [Option.some.injEq, Prod.mk.injEq] at H
             obtain ⟨rfl, rfl, rfl, rfl⟩ := H
             have hnb94 := NB257_255.out
             have hnc94 := NB255_257.out
             have hcz95_0 : wc.cell? ⟨gb257, 0, none⟩ = some (.int .i64 (wrap64 (rd l0 0))) := (zK BK257.out 0).trans rfl
             have hcz95_1 : wc.cell? ⟨gb257, 1, none⟩ = some (.int .i64 0) := (zK BK257.out 1).trans rfl
             have hcz95_2 : wc.cell? ⟨gb257, 2, none⟩ = some (.string (⟨#[]⟩ : ByteArray)) := (zK BK257.out 2).trans rfl
             have hfz95_0 := zF BK257.out 0
             have hfz95_1 := zF BK257.out 1
             have hfz95_2 := zF BK257.out 2
             have hcz96_0 : wc.cell? ⟨gb255, 0, none⟩ = some (.int .i64 0) := (zK BK255.out 0).trans rfl
             have hcz96_1 : wc.cell? ⟨gb255, 1, none⟩ = some (.int .i64 0) := (zK BK255.out 1).trans rfl
             have hcz96_2 : wc.cell? ⟨gb255, 2, none⟩ = some (.string (⟨#[]⟩ : ByteArray)) := (zK BK255.out 2).trans rfl
             have hfz96_0 := zF BK255.out 0
             have hfz96_1 := zF BK255.out 1
             have hfz96_2 := zF BK255.out 2
             go_wp2
             refine bodyPost_ret (results_ct rfl _ _ gb255 27 #[.int .i64 0, .int .i64 0, .string (⟨#[]⟩ : ByteArray)] (0, 0) _ rfl (by (with_reducible repeat (first | refine zX ?_ _ | refine zY ?_ | refine zZ ?_ _)); refine blk_put (cs := #[.int .i64 0, .int .i64 0, .string (⟨#[]⟩ : ByteArray)]) ?_ 2 _ rfl; (with_reducible repeat (first | refine zX ?_ _ | refine zY ?_ | refine zZ ?_ _)); refine blk_put (cs := #[.int .i64 0, .int .i64 0, .string (⟨#[]⟩ : ByteArray)]) ?_ 1 _ rfl; (with_reducible repeat (first | refine zX ?_ _ | refine zY ?_ | refine zZ ?_ _)); refine blk_put (cs := #[.int .i64 0, .int .i64 0, .string (⟨#[]⟩ : ByteArray)]) ?_ 0 _ rfl; (with_reducible repeat (first | refine zX ?_ _ | refine zY ?_ | refine zZ ?_ _)); exact BK255.out) Try.underlying27 rfl (by kernel_rfl)) rfl ?_
             exact ⟨by first | rfl | (simp [errW_none, errW_some] <;> rfl) | (simp [*, errW_none, errW_some] <;> rfl), by repeat (first | (with_reducible first | exact HB.out | apply zU | apply zV | apply zW | refine zH ?_ GE255.out | refine zH ?_ GE257.out) | exact HB.out)⟩
  ·
   rw [if_neg c5] at H
   exact absurd H (by simp)
end

end Go.Proofs.Ytdgikheibcmcjaa.X
