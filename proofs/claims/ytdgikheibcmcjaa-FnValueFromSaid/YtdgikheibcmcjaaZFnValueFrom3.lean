/- Plain functions for the Go functions of this seat, and proofs that each call answers as its plain function does; made by this session's program over the kit's printer. -/
import Derived.Test.YtdgikheibcmcjaaUX0
import Derived.Test.YtdgikheibcmcjaaZFnValueFrom2
namespace Go.Proofs.Ytdgikheibcmcjaa.X
open Go.RowKit Go.Proofs.YtdgikheibcmcjaaV.PrintWords Go.Proofs.YtdgikheibcmcjaaV.PrintLast Go.Proofs.YtdgikheibcmcjaaV.PrintMore
attribute [local go_sem] max2_int min2_int max_two min_two max_three min_three max_four min_four   -- for this text's walks alone
set_option linter.unusedVariables false
set_option linter.unusedSimpArgs false

open Go.Proofs.YtdgikheibcmcjaaV.PrintWords renaming below_alloc → zU, pw_below_drewN → zV, below_drew1 → zW, blk_drewN → zX, blk_drew → zY, blk_alloc → zZ, blk_frozen → zF, blk_cell → zK, below_step → zG, below_set → zH, below_size → zI, blk_below → zJ
open Go.Proofs.YtdgikheibcmcjaaV.PrintWords.Kd renaming R_alloc → zR, R_drewN → zS, R_drew → zT, C_alloc → zQ, C_drewN → zO, C_drew → zP
section
/-! ### spec_ValueFromB: function 24 -/
set_option maxHeartbeats 8000000 in
set_option maxRecDepth 100000 in
theorem spec_ValueFrom.callsB (k : Nat) (A0 : Option Addr) (c0 : Nat) (l0 : List Int) (r1 : Int) (r2 : Int) (r3 : ByteArray) (r4 : Int) (w : World) (hr0 : Kd.C (Kd.int .u8) w A0 l0.length l0) (hc0 : l0.length ≤ c0) (hqz : Aside0 (¬ (wrap64 (rd l0 0)) = 1)) (h : spec_ValueFrom.f k l0 = some (r1, r2, r3, r4)) :
  Calls Try.prog 24 #[.slice A0 l0.length c0] w fun e w' => e = .returned (.tuple #[.agg #[.int .i64 r1, .int .i64 r2, .string r3], .int .i64 r4]) ∧ Below w.heap.size w w' := by
 have hu27 := Try.underlying27
 have HR0 := zM hr0
 have HC0 := zM hc0
 clear hr0 hc0
 have HB := zM (Below.refl w.heap.size w)
 have H : (if (l0.length : Int) = 0 then (some (0, 0, (⟨#[]⟩ : ByteArray), 0)) else (if 0 < (l0.length : Int) then (if (wrap64 (rd l0 0)) = 1 then (spec_ValueFrom.j0 k l0 (decide ((l0.length : Int) > 2)) (wrap64 (rd l0 0)) 0 (⟨#[]⟩ : ByteArray)) else (spec_ValueFrom.j0 k l0 false (wrap64 (rd l0 0)) 0 (⟨#[]⟩ : ByteArray))) else (none))) = some (r1, r2, r3, r4) := h
 clear h
 by_cases c2 : (l0.length : Int) = 0
 ·
  rw [if_pos c2] at H
  have c2b0 : ((l0.length : Int) == 0) = true := beq_iff_eq.mpr c2
  have c2b1 : ((l0.length : Int) != 0) = false := bne_eq_false_iff_eq.mpr c2
  clear c2
  simp only [Option.some.injEq, Prod.mk.injEq] at H
  obtain ⟨rfl, rfl, rfl, rfl⟩ := H
  go_enter Try.func24, Try.ntmps24
  go_wp2_with (first | ((with_reducible refine gate_dst (N := 2) rfl ?_); (try (refine gate_guard (by rfl) ?_; dsimp only)); refine box_event ?hg (N := 2) ?hd (cs := #[.int .i64 0, .int .i64 0, .string (⟨#[]⟩ : ByteArray)]) (t := 27) ?hr ?_; (case hd => rfl); (case hg => rfl); (case hr => first | (go_simp; done) | (go_simp; rfl)); intro gb225 hg w3 hbox hb; have n0_ := zM (zG (by repeat (first | (with_reducible first | exact HB.out | apply zU | apply zV | apply zW) | exact HB.out)) hb); have n1_ := zM (hbox); have n2_ := zM ((by rw [hg]; exact (zI (by repeat (first | (with_reducible first | exact HB.out | apply zU | apply zV | apply zW) | exact HB.out))) : w.heap.size ≤ gb225)); have n3_ := zM ((by rw [hg]; exact (zI (by repeat (first | (with_reducible first | exact HB.out | apply zU | apply zV | apply zW) | exact HB.out))) : w.heap.size ≤ gb225)); clear HB; have HB := n0_; have BK225 := n1_; have GW225 := n2_; have GE225 := n3_; clear n0_ n1_ n2_ n3_; clear hb hbox hg; have hcz4_0 : w3.cell? ⟨gb225, 0, none⟩ = some (.int .i64 0) := (zK BK225.out 0).trans rfl; have hcz4_1 : w3.cell? ⟨gb225, 1, none⟩ = some (.int .i64 0) := (zK BK225.out 1).trans rfl; have hcz4_2 : w3.cell? ⟨gb225, 2, none⟩ = some (.string (⟨#[]⟩ : ByteArray)) := (zK BK225.out 2).trans rfl; have hfz4_0 := zF BK225.out 0; have hfz4_1 := zF BK225.out 1; have hfz4_2 := zF BK225.out 2))
  refine bodyPost_ret (results_ct rfl _ _ gb225 27 #[.int .i64 0, .int .i64 0, .string (⟨#[]⟩ : ByteArray)] (0, 0) _ rfl (by (with_reducible repeat (first | refine zX ?_ _ | refine zY ?_ | refine zZ ?_ _)); refine blk_put (cs := #[.int .i64 0, .int .i64 0, .string (⟨#[]⟩ : ByteArray)]) ?_ 2 _ rfl; (with_reducible repeat (first | refine zX ?_ _ | refine zY ?_ | refine zZ ?_ _)); refine blk_put (cs := #[.int .i64 0, .int .i64 0, .string (⟨#[]⟩ : ByteArray)]) ?_ 1 _ rfl; (with_reducible repeat (first | refine zX ?_ _ | refine zY ?_ | refine zZ ?_ _)); refine blk_put (cs := #[.int .i64 0, .int .i64 0, .string (⟨#[]⟩ : ByteArray)]) ?_ 0 _ rfl; (with_reducible repeat (first | refine zX ?_ _ | refine zY ?_ | refine zZ ?_ _)); exact BK225.out) Try.underlying27 rfl (by kernel_rfl)) rfl ?_
  exact ⟨by first | rfl | (simp [errW_none, errW_some] <;> rfl) | (simp [*, errW_none, errW_some] <;> rfl), by repeat (first | (with_reducible first | exact HB.out | apply zU | apply zV | apply zW | refine zH ?_ GE225.out) | exact HB.out)⟩
 ·
  rw [if_neg c2] at H
  have c2b0 : ((l0.length : Int) == 0) = false := beq_eq_false_iff_ne.mpr c2
  have c2b1 : ((l0.length : Int) != 0) = true := bne_iff_ne.mpr c2
  have c2b2 : ¬ (l0 = []) := fun h_ => c2 (by rw [h_]; rfl)
  by_cases c5 : 0 < (l0.length : Int)
  ·
   rw [if_pos c5] at H
   have c5b0 : decide (0 < (l0.length : Int)) = true := decide_eq_true c5
   have c5b1 : decide (0 < l0.length) = true := decide_eq_true (by omega)
   clear c5
   have HC6 := zM H
   clear H
   go_enter Try.func24, Try.ntmps24
   go_upto_region 4 with (first | ((with_reducible refine gate_dst (N := 2) rfl ?_); (try (refine gate_guard (by rfl) ?_; dsimp only)); refine box_event ?hg (N := 2) ?hd (cs := #[.int .i64 0, .int .i64 0, .string (⟨#[]⟩ : ByteArray)]) (t := 27) ?hr ?_; (case hd => rfl); (case hg => rfl); (case hr => first | (go_simp; done) | (go_simp; rfl)); intro gb225 hg w7 hbox hb; have n0_ := zM (zG (by repeat (first | (with_reducible first | exact HB.out | apply zU | apply zV | apply zW) | exact HB.out)) hb); have n1_ := zM (hbox); have n2_ := zM ((by rw [hg]; exact (zI (by repeat (first | (with_reducible first | exact HB.out | apply zU | apply zV | apply zW) | exact HB.out))) : w.heap.size ≤ gb225)); have n3_ := zM ((by rw [hg]; exact (zI (by repeat (first | (with_reducible first | exact HB.out | apply zU | apply zV | apply zW) | exact HB.out))) : w.heap.size ≤ gb225)); clear HB; have HB := n0_; have BK225 := n1_; have GW225 := n2_; have GE225 := n3_; clear n0_ n1_ n2_ n3_; clear hb hbox hg; have p226 : 0 ≤ (0 : Int) := (by omega); have q226 : 0 < (l0.length : Int) := zL (by assumption); obtain ⟨ad226, e226, hx226_0⟩ := Kd.at_int HR0.out 0 p226 q226; cases e226; have qi226 : (0 < l0.length) = True := eq_true (by omega); (try rw [show ((0 : Int)).toNat = 0 from rfl] at hx226_0); (try rw [Addr.add_zero'] at hx226_0); replace hx226_0 := (HB.out.cell (World.block_lt_of_cell? w _ hx226_0)).trans hx226_0; replace p226 := eq_true p226; replace q226 := eq_true q226) | ((with_reducible refine gate_dst (N := 4) rfl ?_); (try (refine gate_guard (by rfl) ?_; dsimp only)); refine box_event ?hg (N := 4) ?hd (cs := #[.int .i64 0, .int .i64 0, .string (⟨#[]⟩ : ByteArray)]) (t := 27) ?hr ?_; (case hd => rfl); (case hg => rfl); (case hr => first | (go_simp; done) | (go_simp; rfl)); intro gb227 hg w8 hbox hb; have n0_ := zM (zJ (g := gb225) (o := .cells #[.int .i64 0, .int .i64 0, .string (⟨#[]⟩ : ByteArray)] 27 (0, 0)) (by (with_reducible repeat (first | refine zX ?_ _ | refine zY ?_ | refine zZ ?_ _)); exact BK225.out) hb); have n1_ := zM (zG (by repeat (first | (with_reducible first | exact HB.out | apply zU | apply zV | apply zW | refine zH ?_ GE225.out) | exact HB.out)) hb); have n2_ := zM (hbox); have n3_ := zM ((by rw [hg]; exact (zI (by repeat (first | (with_reducible first | exact HB.out | apply zU | apply zV | apply zW | refine zH ?_ GE225.out) | exact HB.out))) : w.heap.size ≤ gb227)); have n4_ := zM ((by rw [hg]; exact (zI (by repeat (first | (with_reducible first | exact HB.out | apply zU | apply zV | apply zW | refine zH ?_ GE225.out) | exact HB.out))) : w.heap.size ≤ gb227)); have n5_ := zM ((by rw [hg]; exact Nat.ne_of_lt (blk_lt (g := gb225) (o := .cells #[.int .i64 0, .int .i64 0, .string (⟨#[]⟩ : ByteArray)] 27 (0, 0)) (by (with_reducible repeat (first | refine zX ?_ _ | refine zY ?_ | refine zZ ?_ _)); exact BK225.out)) : gb225 ≠ gb227)); have n6_ := zM ((by rw [hg]; exact Nat.ne_of_gt (blk_lt (g := gb225) (o := .cells #[.int .i64 0, .int .i64 0, .string (⟨#[]⟩ : ByteArray)] 27 (0, 0)) (by (with_reducible repeat (first | refine zX ?_ _ | refine zY ?_ | refine zZ ?_ _)); exact BK225.out)) : gb227 ≠ gb225)); clear BK225; clear HB; have BK225 := n0_; have HB := n1_; have BK227 := n2_; have GW227 := n3_; have GE227 := n4_; have NB225_227 := n5_; have NB227_225 := n6_; clear n0_ n1_ n2_ n3_ n4_ n5_ n6_; clear hb hbox hg; have hnb9 := NB227_225.out; have hnc9 := NB225_227.out; have hcz10_0 : w8.cell? ⟨gb227, 0, none⟩ = some (.int .i64 0) := (zK BK227.out 0).trans rfl; have hcz10_1 : w8.cell? ⟨gb227, 1, none⟩ = some (.int .i64 0) := (zK BK227.out 1).trans rfl; have hcz10_2 : w8.cell? ⟨gb227, 2, none⟩ = some (.string (⟨#[]⟩ : ByteArray)) := (zK BK227.out 2).trans rfl; have hfz10_0 := zF BK227.out 0; have hfz10_1 := zF BK227.out 1; have hfz10_2 := zF BK227.out 2))
   (try simp only [Act.put, zA, zB, zC])
   go_cut [15] (fun v15 wc => ∃ (kq : Nat) (x15_5 : Bool), v15 = .bool x15_5 ∧ Aside0 (x15_5 = false) ∧ Aside0 (spec_ValueFrom.j0 kq l0 x15_5 (wrap64 (rd l0 0)) 0 (⟨#[]⟩ : ByteArray) = some (r1, r2, r3, r4)) ∧ Aside0 (kq ≤ k) ∧ Aside0 (wc.heap[gb225]? = some (.cells #[.int .i64 0, .int .i64 0, .string (⟨#[]⟩ : ByteArray)] 27 (0, 0))) ∧ Aside0 (wc.heap[gb227]? = some (.cells #[.int .i64 (wrap64 (rd l0 0)), .int .i64 0, .string (⟨#[]⟩ : ByteArray)] 27 (0, 0))) ∧ Aside0 (Below w.heap.size w wc))
   case first =>
    have H := HC6.out
    clear HC6
    by_cases c11 : (wrap64 (rd l0 0)) = 1
    ·
     exact absurd c11 hqz.out
    ·
     rw [if_neg c11] at H
     have c11b0 : ((wrap64 (rd l0 0)) == 1) = false := beq_eq_false_iff_ne.mpr c11
     have c11b1 : ((wrap64 (rd l0 0)) != 1) = true := bne_iff_ne.mpr c11
     (first | rw [c11b0] | (simp only [i64_w, i32_w]; rw [c11b0]) | skip)
     have H' := zM H
     clear H
     have hnb14 := NB227_225.out
     have hnc14 := NB225_227.out
     have hcz15_0 : w8.cell? ⟨gb227, 0, none⟩ = some (.int .i64 0) := (zK BK227.out 0).trans rfl
     have hcz15_1 : w8.cell? ⟨gb227, 1, none⟩ = some (.int .i64 0) := (zK BK227.out 1).trans rfl
     have hcz15_2 : w8.cell? ⟨gb227, 2, none⟩ = some (.string (⟨#[]⟩ : ByteArray)) := (zK BK227.out 2).trans rfl
     have hfz15_0 := zF BK227.out 0
     have hfz15_1 := zF BK227.out 1
     have hfz15_2 := zF BK227.out 2
     go_wp2
     go_meet
     case rel => exact ⟨_, (false), (by first | rfl | (simp; done) | (simp [*]; done)), ⟨rfl⟩, H', ⟨by first | omega | exact Nat.le_refl _⟩, ⟨by (with_reducible repeat (first | refine zX ?_ _ | refine zY ?_ | refine zZ ?_ _)); refine blk_far ?_ NB225_227.out _; (with_reducible repeat (first | refine zX ?_ _ | refine zY ?_ | refine zZ ?_ _)); refine blk_far ?_ NB225_227.out _; (with_reducible repeat (first | refine zX ?_ _ | refine zY ?_ | refine zZ ?_ _)); refine blk_far ?_ NB225_227.out _; (with_reducible repeat (first | refine zX ?_ _ | refine zY ?_ | refine zZ ?_ _)); exact BK225.out⟩, ⟨by (with_reducible repeat (first | refine zX ?_ _ | refine zY ?_ | refine zZ ?_ _)); refine blk_put (cs := #[.int .i64 (wrap64 (rd l0 0)), .int .i64 0, .string (⟨#[]⟩ : ByteArray)]) ?_ 2 _ rfl; (with_reducible repeat (first | refine zX ?_ _ | refine zY ?_ | refine zZ ?_ _)); refine blk_put (cs := #[.int .i64 (wrap64 (rd l0 0)), .int .i64 0, .string (⟨#[]⟩ : ByteArray)]) ?_ 1 _ rfl; (with_reducible repeat (first | refine zX ?_ _ | refine zY ?_ | refine zZ ?_ _)); refine blk_put (cs := #[.int .i64 0, .int .i64 0, .string (⟨#[]⟩ : ByteArray)]) ?_ 0 _ rfl; (with_reducible repeat (first | refine zX ?_ _ | refine zY ?_ | refine zZ ?_ _)); exact BK227.out⟩, ⟨by repeat (first | (with_reducible first | exact HB.out | apply zU | apply zV | apply zW | refine zH ?_ GE225.out | refine zH ?_ GE227.out) | exact HB.out)⟩⟩
   case rest =>
    clear HC6
    try clear c1
    try clear c2
    try clear c2b0
    try clear c2b1
    try clear c2b2
    try clear p2
    try clear q2
    try clear hx2
    try clear qi2
    try clear c5
    try clear c5b0
    try clear c5b1
    try clear p6
    try clear c9
    try clear c11
    try clear c11b0
    try clear c11b1
    try clear c12
    try clear c14
    try clear hcz10_0
    try clear hcz10_1
    try clear hcz10_2
    try clear hcz13_0
    try clear hcz13_1
    try clear hcz13_2
    try clear hcz15_0
    try clear hcz15_1
    try clear hcz15_2
    try clear hcz4_0
    try clear hcz4_1
    try clear hcz4_2
    try clear hfz10_0
    try clear hfz10_1
    try clear hfz10_2
    try clear hfz13_0
    try clear hfz13_1
    try clear hfz13_2
    try clear hfz15_0
    try clear hfz15_1
    try clear hfz15_2
    try clear hfz4_0
    try clear hfz4_1
    try clear hfz4_2
    try clear hx226_0
    try clear p226
    try clear q226
    obtain ⟨kq, x15_5, rfl, HXa, HA, HJ5, BK225, BK227, HB⟩ := hcut
    cases kq with
    | zero => exact absurd HA.out (by simp [spec_ValueFrom.j0])
    | succ kj5 =>
     have H := HA.out
     clear HA
     simp only [spec_ValueFrom.j0] at H
     by_cases c16 : x15_5 = true
     ·
      exact absurd (c16.symm.trans HXa.out) (by decide)
     ·
      replace c16 := Bool.eq_false_iff.mpr c16
      subst c16
      have H1 : (if (wrap64 (rd l0 0)) = 2 then (if (l0.length : Int) > 1 then (if 1 < (l0.length : Int) then (spec_ValueFrom.j1 kj5 l0 (decide ((l0.length : Int) ≥ (wrap64 (2 + (wrap64 (rd l0 1)))))) (wrap64 (rd l0 0)) 0 (⟨#[]⟩ : ByteArray)) else (none)) else (spec_ValueFrom.j1 kj5 l0 false (wrap64 (rd l0 0)) 0 (⟨#[]⟩ : ByteArray))) else (spec_ValueFrom.j1 kj5 l0 false (wrap64 (rd l0 0)) 0 (⟨#[]⟩ : ByteArray))) = some (r1, r2, r3, r4) := by rw [if_neg (show ¬ (false = true) by decide)] at H; exact H
      clear H
      have H := H1
      clear H1
      have HC66 := zM H
      clear H
      go_upto_region 6 with (fail)
      go_cut [36] (fun v36 wc => ∃ (kq : Nat) (x36_65 : Bool), v36 = .bool x36_65 ∧ Aside0 (spec_ValueFrom.j1 kq l0 x36_65 (wrap64 (rd l0 0)) 0 (⟨#[]⟩ : ByteArray) = some (r1, r2, r3, r4)) ∧ Aside0 (kq ≤ kj5) ∧ Aside0 (wc.heap[gb225]? = some (.cells #[.int .i64 0, .int .i64 0, .string (⟨#[]⟩ : ByteArray)] 27 (0, 0))) ∧ Aside0 (wc.heap[gb227]? = some (.cells #[.int .i64 (wrap64 (rd l0 0)), .int .i64 0, .string (⟨#[]⟩ : ByteArray)] 27 (0, 0))) ∧ Aside0 (Below w.heap.size w wc))
      case first =>
       have H := HC66.out
       clear HC66
       by_cases c67 : (wrap64 (rd l0 0)) = 2
       ·
        rw [if_pos c67] at H
        have c67b0 : ((wrap64 (rd l0 0)) == 2) = true := beq_iff_eq.mpr c67
        have c67b1 : ((wrap64 (rd l0 0)) != 2) = false := bne_eq_false_iff_eq.mpr c67
        clear c67
        (first | rw [c67b0] | (simp only [i64_w, i32_w]; rw [c67b0]) | skip)
        by_cases c68 : (l0.length : Int) > 1
        ·
         rw [if_pos c68] at H
         have c68b0 : decide (1 < (l0.length : Int)) = true := decide_eq_true c68
         have c68b1 : decide (1 < l0.length) = true := decide_eq_true (by omega)
         clear c68
         by_cases c69 : 1 < (l0.length : Int)
         ·
          rw [if_pos c69] at H
          have c69b0 : decide (1 < (l0.length : Int)) = true := decide_eq_true c69
          have c69b1 : decide (1 < l0.length) = true := decide_eq_true (by omega)
          clear c69
          have H' := zM H
          clear H
          have hnb70 := NB227_225.out
          have hnc70 := NB225_227.out
          have hcz71_0 : wc.cell? ⟨gb227, 0, none⟩ = some (.int .i64 (wrap64 (rd l0 0))) := (zK BK227.out 0).trans rfl
          have hcz71_1 : wc.cell? ⟨gb227, 1, none⟩ = some (.int .i64 0) := (zK BK227.out 1).trans rfl
          have hcz71_2 : wc.cell? ⟨gb227, 2, none⟩ = some (.string (⟨#[]⟩ : ByteArray)) := (zK BK227.out 2).trans rfl
          have hfz71_0 := zF BK227.out 0
          have hfz71_1 := zF BK227.out 1
          have hfz71_2 := zF BK227.out 2
          have p234 : 0 ≤ (1 : Int) := (by omega)
          have q234 : 1 < (l0.length : Int) := zL (by assumption)
          obtain ⟨ad234, e234, hx234_0⟩ := Kd.at_int HR0.out 1 p234 q234
          obtain rfl : ad226 = ad234 := (by injection e234)
          (try simp only [show (1 : Int).toNat = 1 from rfl, Nat.reduceMul, Nat.reduceEqDiff, Go.Addr.add, ↓reduceIte] at hx234_0)
          have qi234 : (1 < l0.length) = True := eq_true (by omega)
          (try rw [show ((1 : Int)).toNat = 1 from rfl] at hx234_0)
          replace hx234_0 := (HB.out.cell (World.block_lt_of_cell? w _ hx234_0)).trans hx234_0
          replace p234 := eq_true p234
          replace q234 := eq_true q234
          go_wp2
          go_meet
          case rel => exact ⟨_, (decide ((l0.length : Int) ≥ (wrap64 (2 + (wrap64 (rd l0 1)))))), (by first | rfl | (simp; done) | (simp [*]; done)), H', ⟨by have := HJ5.out; first | omega | exact Nat.le_refl _⟩, ⟨by (with_reducible repeat (first | refine zX ?_ _ | refine zY ?_ | refine zZ ?_ _)); exact BK225.out⟩, ⟨by (with_reducible repeat (first | refine zX ?_ _ | refine zY ?_ | refine zZ ?_ _)); exact BK227.out⟩, ⟨by repeat (first | (with_reducible first | exact HB.out | apply zU | apply zV | apply zW | refine zH ?_ GE225.out | refine zH ?_ GE227.out) | exact HB.out)⟩⟩
         ·
          rw [if_neg c69] at H
          exact absurd H (by simp)
        ·
         rw [if_neg c68] at H
         have c68b0 : decide (1 < (l0.length : Int)) = false := decide_eq_false c68
         have c68b1 : decide (1 < l0.length) = false := decide_eq_false (by omega)
         clear c68
         have H' := zM H
         clear H
         have hnb72 := NB227_225.out
         have hnc72 := NB225_227.out
         have hcz73_0 : wc.cell? ⟨gb227, 0, none⟩ = some (.int .i64 (wrap64 (rd l0 0))) := (zK BK227.out 0).trans rfl
         have hcz73_1 : wc.cell? ⟨gb227, 1, none⟩ = some (.int .i64 0) := (zK BK227.out 1).trans rfl
         have hcz73_2 : wc.cell? ⟨gb227, 2, none⟩ = some (.string (⟨#[]⟩ : ByteArray)) := (zK BK227.out 2).trans rfl
         have hfz73_0 := zF BK227.out 0
         have hfz73_1 := zF BK227.out 1
         have hfz73_2 := zF BK227.out 2
         go_wp2
         go_meet
         case rel => exact ⟨_, (false), (by first | rfl | (simp; done) | (simp [*]; done)), H', ⟨by have := HJ5.out; first | omega | exact Nat.le_refl _⟩, ⟨by (with_reducible repeat (first | refine zX ?_ _ | refine zY ?_ | refine zZ ?_ _)); exact BK225.out⟩, ⟨by (with_reducible repeat (first | refine zX ?_ _ | refine zY ?_ | refine zZ ?_ _)); exact BK227.out⟩, ⟨by repeat (first | (with_reducible first | exact HB.out | apply zU | apply zV | apply zW | refine zH ?_ GE225.out | refine zH ?_ GE227.out) | exact HB.out)⟩⟩
       ·
        rw [if_neg c67] at H
        have c67b0 : ((wrap64 (rd l0 0)) == 2) = false := beq_eq_false_iff_ne.mpr c67
        have c67b1 : ((wrap64 (rd l0 0)) != 2) = true := bne_iff_ne.mpr c67
        (first | rw [c67b0] | (simp only [i64_w, i32_w]; rw [c67b0]) | skip)
        have H' := zM H
        clear H
        have hnb74 := NB227_225.out
        have hnc74 := NB225_227.out
        have hcz75_0 : wc.cell? ⟨gb227, 0, none⟩ = some (.int .i64 (wrap64 (rd l0 0))) := (zK BK227.out 0).trans rfl
        have hcz75_1 : wc.cell? ⟨gb227, 1, none⟩ = some (.int .i64 0) := (zK BK227.out 1).trans rfl
        have hcz75_2 : wc.cell? ⟨gb227, 2, none⟩ = some (.string (⟨#[]⟩ : ByteArray)) := (zK BK227.out 2).trans rfl
        have hfz75_0 := zF BK227.out 0
        have hfz75_1 := zF BK227.out 1
        have hfz75_2 := zF BK227.out 2
        go_wp2
        go_meet
        case rel => exact ⟨_, (false), (by first | rfl | (simp; done) | (simp [*]; done)), H', ⟨by have := HJ5.out; first | omega | exact Nat.le_refl _⟩, ⟨by (with_reducible repeat (first | refine zX ?_ _ | refine zY ?_ | refine zZ ?_ _)); exact BK225.out⟩, ⟨by (with_reducible repeat (first | refine zX ?_ _ | refine zY ?_ | refine zZ ?_ _)); exact BK227.out⟩, ⟨by repeat (first | (with_reducible first | exact HB.out | apply zU | apply zV | apply zW | refine zH ?_ GE225.out | refine zH ?_ GE227.out) | exact HB.out)⟩⟩
      case rest =>
       clear HC66
       try clear c1
       try clear p2
       try clear q2
       try clear hx2
       try clear qi2
       try clear c3
       try clear c4
       try clear c5
       try clear c6
       try clear p6
       try clear hcv6
       try clear c7
       try clear c16
       try clear c17
       try clear c18
       try clear p22
       try clear q22
       try clear hx22
       try clear qi22
       try clear p23
       try clear q23
       try clear hx23
       try clear qi23
       try clear c38
       try clear c39
       try clear c40
       try clear c40b0
       try clear c40b1
       try clear c56
       try clear hcv62
       try clear hcv63
       try clear p64
       try clear c67
       try clear c67b0
       try clear c67b1
       try clear c68
       try clear c68b0
       try clear c68b1
       try clear c69
       try clear c69b0
       try clear c69b1
       try clear c70
       try clear c72
       try clear c74
       try clear hcz52_0
       try clear hcz52_1
       try clear hcz52_2
       try clear hcz53_0
       try clear hcz53_1
       try clear hcz53_2
       try clear hcz57_0
       try clear hcz57_1
       try clear hcz57_2
       try clear hcz65_0
       try clear hcz65_1
       try clear hcz65_2
       try clear hcz71_0
       try clear hcz71_1
       try clear hcz71_2
       try clear hcz73_0
       try clear hcz73_1
       try clear hcz73_2
       try clear hcz75_0
       try clear hcz75_1
       try clear hcz75_2
       try clear hfz52_0
       try clear hfz52_1
       try clear hfz52_2
       try clear hfz53_0
       try clear hfz53_1
       try clear hfz53_2
       try clear hfz57_0
       try clear hfz57_1
       try clear hfz57_2
       try clear hfz65_0
       try clear hfz65_1
       try clear hfz65_2
       try clear hfz71_0
       try clear hfz71_1
       try clear hfz71_2
       try clear hfz73_0
       try clear hfz73_1
       try clear hfz73_2
       try clear hfz75_0
       try clear hfz75_1
       try clear hfz75_2
       try clear hx228_0
       try clear hx229_0
       try clear hx234_0
       try clear p228
       try clear p229
       try clear p234
       try clear q228
       try clear q229
       try clear q234
       obtain ⟨kq, x36_65, rfl, HA, HJ65, BK225, BK227, HB⟩ := hcut
       cases kq with
       | zero => exact absurd HA.out (by simp [spec_ValueFrom.j1])
       | succ kj65 =>
        have H := HA.out
        clear HA
        simp only [spec_ValueFrom.j1] at H
        by_cases c76 : x36_65 = true
        ·
         subst c76
         have H1 : (if 1 < (l0.length : Int) then (if 2 ≤ (wrap64 (2 + (wrap64 (rd l0 1)))) then (if (wrap64 (2 + (wrap64 (rd l0 1)))) ≤ (l0.length : Int) then ((spec_ValueBytes.f kj65 (wrap64 (rd l0 0)) 0 (strOfNums ((l0.take ((wrap64 (2 + (wrap64 (rd l0 1)))) : Int).toNat).drop 2))).bind fun t237 => (if (t237.length : Int) = 0 then (some (0, 0, (⟨#[]⟩ : ByteArray), 0)) else (if (t237.length : Int) > (l0.length : Int) then (some (0, 0, (⟨#[]⟩ : ByteArray), 0)) else (if 0 ≤ (t237.length : Int) then (if (t237.length : Int) ≤ (l0.length : Int) then (if (strOfNums t237).toList = (strOfNums (l0.take ((t237.length : Int) : Int).toNat)).toList then (some ((wrap64 (rd l0 0)), 0, strOfNums ((l0.take ((wrap64 (2 + (wrap64 (rd l0 1)))) : Int).toNat).drop 2), (t237.length : Int))) else (some (0, 0, (⟨#[]⟩ : ByteArray), 0))) else (none)) else (none))))) else (none)) else (none)) else (none)) = some (r1, r2, r3, r4) := by rw [if_pos rfl] at H; exact H
         clear H
         have H := H1
         clear H1
         by_cases c77 : 1 < (l0.length : Int)
         ·
          rw [if_pos c77] at H
          have c77b0 : decide (1 < (l0.length : Int)) = true := decide_eq_true c77
          have c77b1 : decide (1 < l0.length) = true := decide_eq_true (by omega)
          clear c77
          by_cases c78 : 2 ≤ (wrap64 (2 + (wrap64 (rd l0 1))))
          ·
           rw [if_pos c78] at H
           have c78b0 := eq_true c78
           have c78b1 : decide (2 ≤ (wrap64 (2 + (wrap64 (rd l0 1))))) = true := decide_eq_true c78
           by_cases c79 : (wrap64 (2 + (wrap64 (rd l0 1)))) ≤ (l0.length : Int)
           ·
            rw [if_pos c79] at H
            have c79b0 := eq_true c79
            have c79b1 : decide ((wrap64 (2 + (wrap64 (rd l0 1)))) ≤ (l0.length : Int)) = true := decide_eq_true c79
            replace H := Option.bind_eq_some_iff.mp H
            obtain ⟨t237, A800, H⟩ := H
            replace H : (if (t237.length : Int) = 0 then (some (0, 0, (⟨#[]⟩ : ByteArray), 0)) else (if (t237.length : Int) > (l0.length : Int) then (some (0, 0, (⟨#[]⟩ : ByteArray), 0)) else (if 0 ≤ (t237.length : Int) then (if (t237.length : Int) ≤ (l0.length : Int) then (if (strOfNums t237).toList = (strOfNums (l0.take ((t237.length : Int) : Int).toNat)).toList then (some ((wrap64 (rd l0 0)), 0, strOfNums ((l0.take ((wrap64 (2 + (wrap64 (rd l0 1)))) : Int).toNat).drop 2), (t237.length : Int))) else (some (0, 0, (⟨#[]⟩ : ByteArray), 0))) else (none)) else (none)))) = some (r1, r2, r3, r4) := H
            have A80 := zM A800
            clear A800
            by_cases c81 : (t237.length : Int) = 0
            ·
             rw [if_pos c81] at H
             have c81b0 : ((t237.length : Int) == 0) = true := beq_iff_eq.mpr c81
             have c81b1 : ((t237.length : Int) != 0) = false := bne_eq_false_iff_eq.mpr c81
             clear c81
             simp only [Option.some.injEq, Prod.mk.injEq] at H
             obtain ⟨rfl, rfl, rfl, rfl⟩ := H
             have p235 : 0 ≤ (1 : Int) := (by omega)
             have q235 : 1 < (l0.length : Int) := zL (by assumption)
             obtain ⟨ad235, e235, hx235_0⟩ := Kd.at_int HR0.out 1 p235 q235
             obtain rfl : ad226 = ad235 := (by injection e235)
             (try simp only [show (1 : Int).toNat = 1 from rfl, Nat.reduceMul, Nat.reduceEqDiff, Go.Addr.add, ↓reduceIte] at hx235_0)
             have qi235 : (1 < l0.length) = True := eq_true (by omega)
             (try rw [show ((1 : Int)).toNat = 1 from rfl] at hx235_0)
             replace hx235_0 := (HB.out.cell (World.block_lt_of_cell? w _ hx235_0)).trans hx235_0
             replace p235 := eq_true p235
             replace q235 := eq_true q235
             obtain ⟨i082, hi082, _, hsz82, _⟩ := info_parts info5
             obtain ⟨A82, hcut82, hA82, hC82⟩ := print_mid_of (P := Try.prog) (Value.int .u8) 0 25 5 .i64 .i64 Try.underlying25 hi082 hsz82 (some ad226) c0 l0 2 (wrap64 (2 + (wrap64 (rd l0 1)))) (by omega) (by first | omega | exact zL (by assumption)) (zL (by assumption)) HC0.out
             have HR236 := zM (Kd.C_of_reads (h1 := fun _ => rfl) (hA82 _ (Kd.reads_of_C HR0.out)))
             have HC236 := zM hC82
             clear hA82 hC82 hi082 hsz82
             have hcv83 := Kd.C_string (P := Try.prog) (A := A82) (c := (c0 - 2)) Try.underlying25 Try.underlying5 Try.underlying9 (Kd.C_below HR236.out HB.out)
             have hce_ : (wrap64 (2 + (wrap64 (rd l0 1)))) ≤ (l0.length : Int) := zL (by first | (with_reducible assumption) | assumption)
             rw [List.length_drop, List.length_take, Nat.min_eq_left (by omega)] at hcv83
             (try simp only [Int.reduceToNat] at hcv83)
             clear hce_
             have hnb84 := NB227_225.out
             have hnc84 := NB225_227.out
             have hcz85_0 : wc.cell? ⟨gb227, 0, none⟩ = some (.int .i64 (wrap64 (rd l0 0))) := (zK BK227.out 0).trans rfl
             have hcz85_1 : wc.cell? ⟨gb227, 1, none⟩ = some (.int .i64 0) := (zK BK227.out 1).trans rfl
             have hcz85_2 : wc.cell? ⟨gb227, 2, none⟩ = some (.string (⟨#[]⟩ : ByteArray)) := (zK BK227.out 2).trans rfl
             have hfz85_0 := zF BK227.out 0
             have hfz85_1 := zF BK227.out 1
             have hfz85_2 := zF BK227.out 2
             try go_wp2_with (first | ((with_reducible refine gate_callee (f := 16) rfl ?_); refine goesL_ (some 79) rfl rfl Try.func16 (by kernel_rfl) rfl #[.agg #[.int .i64 (wrap64 (rd l0 0)), .int .i64 0, .string (strOfNums ((l0.take ((wrap64 (2 + (wrap64 (rd l0 1)))) : Int).toNat).drop 2))]] rfl (by (try simp only [List.map_toArray, List.map_cons, List.map_nil]); first | done | rfl | (simp only [List.length_drop, List.length_take]; rfl)) ?_; (with_reducible refine (spec_ValueBytes.calls kj65 (wrap64 (rd l0 0)) 0 (strOfNums ((l0.take ((wrap64 (2 + (wrap64 (rd l0 1)))) : Int).toNat).drop 2)) t237 _ A80.out).mono ?_); rintro e w86 ⟨v238, rfl, ho0, hb⟩; refine ⟨_, rfl, ?_⟩; have n0_ := zM (Kd.R_lower ho0 (zI (by repeat (first | (with_reducible first | exact HB.out | apply zU | apply zV | apply zW | refine zH ?_ GE225.out | refine zH ?_ GE227.out) | exact HB.out)))); have n1_ := zM (zJ (g := gb225) (o := .cells #[.int .i64 0, .int .i64 0, .string (⟨#[]⟩ : ByteArray)] 27 (0, 0)) (by (with_reducible repeat (first | refine zX ?_ _ | refine zY ?_ | refine zZ ?_ _)); refine blk_far ?_ NB225_227.out _; (with_reducible repeat (first | refine zX ?_ _ | refine zY ?_ | refine zZ ?_ _)); exact BK225.out) hb); have n2_ := zM (zJ (g := gb227) (o := .cells #[.int .i64 (wrap64 (rd l0 0)), .int .i64 0, .string (strOfNums ((l0.take ((wrap64 (2 + (wrap64 (rd l0 1)))) : Int).toNat).drop 2))] 27 (0, 0)) (by (with_reducible repeat (first | refine zX ?_ _ | refine zY ?_ | refine zZ ?_ _)); refine blk_put (cs := #[.int .i64 (wrap64 (rd l0 0)), .int .i64 0, .string (⟨#[]⟩ : ByteArray)]) ?_ 2 _ rfl; (with_reducible repeat (first | refine zX ?_ _ | refine zY ?_ | refine zZ ?_ _)); exact BK227.out) hb); have n3_ := zM (zG (by repeat (first | (with_reducible first | exact HB.out | apply zU | apply zV | apply zW | refine zH ?_ GE225.out | refine zH ?_ GE227.out) | exact HB.out)) hb); clear BK225; clear BK227; clear HB; have HO239 := n0_; have BK225 := n1_; have BK227 := n2_; have HB := n3_; clear n0_ n1_ n2_ n3_; (try clear hb); (try clear hb2); (try clear hk); (try clear hi); (try clear ho0)))
             have n0_ := zM (zT HO239.out)
             have n1_ := zM (zY BK225.out)
             have n2_ := zM (zY BK227.out)
             have n3_ := zM (zW HB.out)
             clear HO239
             clear BK225
             clear BK227
             clear HB
             have HO239 := n0_
             have BK225 := n1_
             have BK227 := n2_
             have HB := n3_
             clear n0_ n1_ n2_ n3_
             obtain ⟨Ao88, co88, eo88⟩ := Kd.R_slice HO239.out
             (first | subst eo88 | (injection eo88 with f1_ f2_ f3_; have f4_ := f1_.symm; have f5_ := f3_.symm; clear f1_ f2_ f3_; subst f4_; subst f5_))
             refine start_ (n := 20) (S := fun w' => True) (ds := []) #[ff, ff, ff, ff, ff, ff, ff, ff, ff, ff, ff, ff, ff, ff, ff, ff, ff, ff, ff, ff] (by kernel_rfl) rfl rfl trivial (fun hHeld => ?_); refine with_tabW spec_ValueFrom.tab11 spec_ValueFrom.bits11 (fun HT_ HW_ => ?_)
             generalize w86.drew = w87 at HO239 BK225 BK227 HB hHeld ⊢
             refine pure_ (i := 0) (N := some 80) (v := ?_) (a' := ?_) #[tt, ff, ff, ff, ff, ff, ff, ff, ff, ff, ff, ff, ff, ff, ff, ff, ff, ff, ff, ff] rfl rfl (any_of HT_.out (by kernel_rfl)) (fun _ _ _ h => h) (Or.inl ⟨by rfl, ?_⟩) ?_ ?_
             rotate_left
             ·
              intro w'
              go_simp
              with_reducible rfl
             rotate_left
             ·
              simp only [Act.put, zA, zB, zC, i64_w, i32_w]
              rfl
             refine pure_ (i := 1) (N := some 81) (v := ?_) (a' := ?_) #[tt, tt, ff, ff, ff, ff, ff, ff, ff, ff, ff, ff, ff, ff, ff, ff, ff, ff, ff, ff] rfl rfl (any_of HT_.out (by kernel_rfl)) (fun _ _ _ h => h) (Or.inl ⟨by rfl, ?_⟩) ?_ ?_
             rotate_left
             ·
              intro w'
              go_simp
              with_reducible rfl
             rotate_left
             ·
              simp only [Act.put, zA, zB, zC, i64_w, i32_w]
              rfl
             refine pure_ (i := 2) (N := some 82) (v := ?_) (a' := ?_) #[tt, tt, tt, ff, ff, ff, ff, ff, ff, ff, ff, ff, ff, ff, ff, ff, ff, ff, ff, ff] rfl rfl (any_of HT_.out (by kernel_rfl)) (fun _ _ _ h => h) (Or.inl ⟨by rfl, ?_⟩) ?_ ?_
             rotate_left
             ·
              intro w'
              go_simp
              with_reducible rfl
             rotate_left
             ·
              simp only [Act.put, zA, zB, zC, i64_w, i32_w]
              rfl
             refine pure_ (i := 3) (N := some 83) (v := ?_) (a' := ?_) #[tt, tt, tt, tt, ff, ff, ff, ff, ff, ff, ff, ff, ff, ff, ff, ff, ff, ff, ff, ff] rfl rfl (any_of HT_.out (by kernel_rfl)) (fun _ _ _ h => h) (Or.inl ⟨by rfl, ?_⟩) ?_ ?_
             rotate_left
             ·
              intro w'
              go_simp
              with_reducible rfl
             rotate_left
             ·
              simp only [Act.put, zA, zB, zC, i64_w, i32_w]
              rfl
             refine pure_ (i := 4) (N := some 84) (v := undef) (a' := ?_) #[tt, tt, tt, tt, tt, ff, ff, ff, ff, ff, ff, ff, ff, ff, ff, ff, ff, ff, ff, ff] rfl rfl (any_of HT_.out (by kernel_rfl)) (fun _ _ _ h => h) (Or.inr ⟨by rfl, rfl⟩) ?_ ?_
             rotate_left
             ·
              simp only [Act.put, zA, zB, zC, i64_w, i32_w]
              rfl
             refine pure_ (i := 5) (N := some 85) (v := undef) (a' := ?_) #[tt, tt, tt, tt, tt, tt, ff, ff, ff, ff, ff, ff, ff, ff, ff, ff, ff, ff, ff, ff] rfl rfl (any_of HT_.out (by kernel_rfl)) (fun _ _ _ h => h) (Or.inr ⟨by rfl, rfl⟩) ?_ ?_
             rotate_left
             ·
              simp only [Act.put, zA, zB, zC, i64_w, i32_w]
              rfl
             refine pure_ (i := 6) (N := some 86) (v := undef) (a' := ?_) #[tt, tt, tt, tt, tt, tt, tt, ff, ff, ff, ff, ff, ff, ff, ff, ff, ff, ff, ff, ff] rfl rfl (any_of HT_.out (by kernel_rfl)) (fun _ _ _ h => h) (Or.inr ⟨by rfl, rfl⟩) ?_ ?_
             rotate_left
             ·
              simp only [Act.put, zA, zB, zC, i64_w, i32_w]
              rfl
             refine pure_ (i := 7) (N := some 87) (v := undef) (a' := ?_) #[tt, tt, tt, tt, tt, tt, tt, tt, ff, ff, ff, ff, ff, ff, ff, ff, ff, ff, ff, ff] rfl rfl (any_of HT_.out (by kernel_rfl)) (fun _ _ _ h => h) (Or.inr ⟨by rfl, rfl⟩) ?_ ?_
             rotate_left
             ·
              simp only [Act.put, zA, zB, zC, i64_w, i32_w]
              rfl
             refine pure_ (i := 8) (N := some 88) (v := undef) (a' := ?_) #[tt, tt, tt, tt, tt, tt, tt, tt, tt, ff, ff, ff, ff, ff, ff, ff, ff, ff, ff, ff] rfl rfl (any_of HT_.out (by kernel_rfl)) (fun _ _ _ h => h) (Or.inr ⟨by rfl, rfl⟩) ?_ ?_
             rotate_left
             ·
              simp only [Act.put, zA, zB, zC, i64_w, i32_w]
              rfl
             refine pure_ (i := 9) (N := some 89) (v := ?_) (a' := ?_) #[tt, tt, tt, tt, tt, tt, tt, tt, tt, tt, ff, ff, ff, ff, ff, ff, ff, ff, ff, ff] rfl rfl (any_of HT_.out (by kernel_rfl)) (fun _ _ _ h => h) (Or.inl ⟨by rfl, ?_⟩) ?_ ?_
             rotate_left
             ·
              intro w'
              go_simp
              with_reducible rfl
             rotate_left
             ·
              simp only [Act.put, zA, zB, zC, i64_w, i32_w]
              rfl
             refine pure_ (i := 10) (N := some 90) (v := ?_) (a' := ?_) #[tt, tt, tt, tt, tt, tt, tt, tt, tt, tt, tt, ff, ff, ff, ff, ff, ff, ff, ff, ff] rfl rfl (any_of HT_.out (by kernel_rfl)) (fun _ _ _ h => h) (Or.inl ⟨by rfl, ?_⟩) ?_ ?_
             rotate_left
             ·
              intro w'
              go_simp
              with_reducible rfl
             rotate_left
             ·
              simp only [Act.put, zA, zB, zC, i64_w, i32_w]
              rfl
             refine pure_ (i := 11) (N := some 91) (v := undef) (a' := ?_) #[tt, tt, tt, tt, tt, tt, tt, tt, tt, tt, tt, tt, ff, ff, ff, ff, ff, ff, ff, ff] rfl rfl (any_of HT_.out (by kernel_rfl)) (fun _ _ _ h => h) (Or.inr ⟨by rfl, rfl⟩) ?_ ?_
             rotate_left
             ·
              simp only [Act.put, zA, zB, zC, i64_w, i32_w]
              rfl
             refine pure_ (i := 12) (N := some 92) (v := undef) (a' := ?_) #[tt, tt, tt, tt, tt, tt, tt, tt, tt, tt, tt, tt, tt, ff, ff, ff, ff, ff, ff, ff] rfl rfl (any_of HT_.out (by kernel_rfl)) (fun _ _ _ h => h) (Or.inr ⟨by rfl, rfl⟩) ?_ ?_
             rotate_left
             ·
              simp only [Act.put, zA, zB, zC, i64_w, i32_w]
              rfl
             refine pure_ (i := 13) (N := some 93) (v := undef) (a' := ?_) #[tt, tt, tt, tt, tt, tt, tt, tt, tt, tt, tt, tt, tt, tt, ff, ff, ff, ff, ff, ff] rfl rfl (any_of HT_.out (by kernel_rfl)) (fun _ _ _ h => h) (Or.inr ⟨by rfl, rfl⟩) ?_ ?_
             rotate_left
             ·
              simp only [Act.put, zA, zB, zC, i64_w, i32_w]
              rfl
             refine pure_ (i := 14) (N := some 94) (v := undef) (a' := ?_) #[tt, tt, tt, tt, tt, tt, tt, tt, tt, tt, tt, tt, tt, tt, tt, ff, ff, ff, ff, ff] rfl rfl (any_of HT_.out (by kernel_rfl)) (fun _ _ _ h => h) (Or.inr ⟨by rfl, rfl⟩) ?_ ?_
             rotate_left
             ·
              simp only [Act.put, zA, zB, zC, i64_w, i32_w]
              rfl
             refine pure_ (i := 15) (N := some 95) (v := undef) (a' := ?_) #[tt, tt, tt, tt, tt, tt, tt, tt, tt, tt, tt, tt, tt, tt, tt, tt, ff, ff, ff, ff] rfl rfl (any_of HT_.out (by kernel_rfl)) (fun _ _ _ h => h) (Or.inr ⟨by rfl, rfl⟩) ?_ ?_
             rotate_left
             ·
              simp only [Act.put, zA, zB, zC, i64_w, i32_w]
              rfl
             refine pure_ (i := 16) (N := some 96) (v := undef) (a' := ?_) #[tt, tt, tt, tt, tt, tt, tt, tt, tt, tt, tt, tt, tt, tt, tt, tt, tt, ff, ff, ff] rfl rfl (any_of HT_.out (by kernel_rfl)) (fun _ _ _ h => h) (Or.inr ⟨by rfl, rfl⟩) ?_ ?_
             rotate_left
             ·
              simp only [Act.put, zA, zB, zC, i64_w, i32_w]
              rfl
             refine pure_ (i := 17) (N := some 97) (v := undef) (a' := ?_) #[tt, tt, tt, tt, tt, tt, tt, tt, tt, tt, tt, tt, tt, tt, tt, tt, tt, tt, ff, ff] rfl rfl (any_of HT_.out (by kernel_rfl)) (fun _ _ _ h => h) (Or.inr ⟨by rfl, rfl⟩) ?_ ?_
             rotate_left
             ·
              simp only [Act.put, zA, zB, zC, i64_w, i32_w]
              rfl
             refine pure_ (i := 18) (N := some 98) (v := undef) (a' := ?_) #[tt, tt, tt, tt, tt, tt, tt, tt, tt, tt, tt, tt, tt, tt, tt, tt, tt, tt, tt, ff] rfl rfl (any_of HT_.out (by kernel_rfl)) (fun _ _ _ h => h) (Or.inr ⟨by rfl, rfl⟩) ?_ ?_
             rotate_left
             ·
              simp only [Act.put, zA, zB, zC, i64_w, i32_w]
              rfl
             refine pure_ (i := 19) (N := some 99) (v := ?_) (a' := ?_) #[tt, tt, tt, tt, tt, tt, tt, tt, tt, tt, tt, tt, tt, tt, tt, tt, tt, tt, tt, tt] rfl rfl (any_of HT_.out (by kernel_rfl)) (fun _ _ _ h => h) (Or.inl ⟨by rfl, ?_⟩) ?_ ?_
             rotate_left
             ·
              intro w'
              go_simp
              with_reducible rfl
             rotate_left
             ·
              simp only [Act.put, zA, zB, zC, i64_w, i32_w]
              rfl
             refine done_ (done_of HT_.out (by kernel_rfl)) ?_
             have hcz89_0 : w87.cell? ⟨gb225, 0, none⟩ = some (.int .i64 0) := (zK BK225.out 0).trans rfl
             have hcz89_1 : w87.cell? ⟨gb225, 1, none⟩ = some (.int .i64 0) := (zK BK225.out 1).trans rfl
             have hcz89_2 : w87.cell? ⟨gb225, 2, none⟩ = some (.string (⟨#[]⟩ : ByteArray)) := (zK BK225.out 2).trans rfl
             have hfz89_0 := zF BK225.out 0
             have hfz89_1 := zF BK225.out 1
             have hfz89_2 := zF BK225.out 2
             try go_wp2
             refine bodyPost_ret (results_ct rfl _ _ gb225 27 #[.int .i64 0, .int .i64 0, .string (⟨#[]⟩ : ByteArray)] (0, 0) _ rfl (by (with_reducible repeat (first | refine zX ?_ _ | refine zY ?_ | refine zZ ?_ _)); refine blk_put (cs := #[.int .i64 0, .int .i64 0, .string (⟨#[]⟩ : ByteArray)]) ?_ 2 _ rfl; (with_reducible repeat (first | refine zX ?_ _ | refine zY ?_ | refine zZ ?_ _)); refine blk_put (cs := #[.int .i64 0, .int .i64 0, .string (⟨#[]⟩ : ByteArray)]) ?_ 1 _ rfl; (with_reducible repeat (first | refine zX ?_ _ | refine zY ?_ | refine zZ ?_ _)); refine blk_put (cs := #[.int .i64 0, .int .i64 0, .string (⟨#[]⟩ : ByteArray)]) ?_ 0 _ rfl; (with_reducible repeat (first | refine zX ?_ _ | refine zY ?_ | refine zZ ?_ _)); exact BK225.out) Try.underlying27 rfl (by kernel_rfl)) rfl ?_
             exact ⟨by first | rfl | (simp [errW_none, errW_some] <;> rfl) | (simp [*, errW_none, errW_some] <;> rfl), by repeat (first | (with_reducible first | exact HB.out | apply zU | apply zV | apply zW | refine zH ?_ GE225.out | refine zH ?_ GE227.out) | exact HB.out)⟩
            ·
             rw [if_neg c81] at H
             have c81b0 : ((t237.length : Int) == 0) = false := beq_eq_false_iff_ne.mpr c81
             have c81b1 : ((t237.length : Int) != 0) = true := bne_iff_ne.mpr c81
             have c81b2 : ¬ (t237 = []) := fun h_ => c81 (by rw [h_]; rfl)
             by_cases c90 : (t237.length : Int) > (l0.length : Int)
             ·
              rw [if_pos c90] at H
              have c90b0 : decide ((l0.length : Int) < (t237.length : Int)) = true := decide_eq_true c90
              have c90b1 : decide (l0.length < t237.length) = true := decide_eq_true (Int.ofNat_lt.mp c90)
              clear c90
              simp only [Option.some.injEq, Prod.mk.injEq] at H
              obtain ⟨rfl, rfl, rfl, rfl⟩ := H
              have p235 : 0 ≤ (1 : Int) := (by omega)
              have q235 : 1 < (l0.length : Int) := zL (by assumption)
              obtain ⟨ad235, e235, hx235_0⟩ := Kd.at_int HR0.out 1 p235 q235
              obtain rfl : ad226 = ad235 := (by injection e235)
              (try simp only [show (1 : Int).toNat = 1 from rfl, Nat.reduceMul, Nat.reduceEqDiff, Go.Addr.add, ↓reduceIte] at hx235_0)
              have qi235 : (1 < l0.length) = True := eq_true (by omega)
              (try rw [show ((1 : Int)).toNat = 1 from rfl] at hx235_0)
              replace hx235_0 := (HB.out.cell (World.block_lt_of_cell? w _ hx235_0)).trans hx235_0
              replace p235 := eq_true p235
              replace q235 := eq_true q235
              obtain ⟨i091, hi091, _, hsz91, _⟩ := info_parts info5
              obtain ⟨A91, hcut91, hA91, hC91⟩ := print_mid_of (P := Try.prog) (Value.int .u8) 0 25 5 .i64 .i64 Try.underlying25 hi091 hsz91 (some ad226) c0 l0 2 (wrap64 (2 + (wrap64 (rd l0 1)))) (by omega) (by first | omega | exact zL (by assumption)) (zL (by assumption)) HC0.out
              have HR236 := zM (Kd.C_of_reads (h1 := fun _ => rfl) (hA91 _ (Kd.reads_of_C HR0.out)))
              have HC236 := zM hC91
              clear hA91 hC91 hi091 hsz91
              have hcv92 := Kd.C_string (P := Try.prog) (A := A91) (c := (c0 - 2)) Try.underlying25 Try.underlying5 Try.underlying9 (Kd.C_below HR236.out HB.out)
              have hce_ : (wrap64 (2 + (wrap64 (rd l0 1)))) ≤ (l0.length : Int) := zL (by first | (with_reducible assumption) | assumption)
              rw [List.length_drop, List.length_take, Nat.min_eq_left (by omega)] at hcv92
              (try simp only [Int.reduceToNat] at hcv92)
              clear hce_
              have hnb93 := NB227_225.out
              have hnc93 := NB225_227.out
              have hcz94_0 : wc.cell? ⟨gb227, 0, none⟩ = some (.int .i64 (wrap64 (rd l0 0))) := (zK BK227.out 0).trans rfl
              have hcz94_1 : wc.cell? ⟨gb227, 1, none⟩ = some (.int .i64 0) := (zK BK227.out 1).trans rfl
              have hcz94_2 : wc.cell? ⟨gb227, 2, none⟩ = some (.string (⟨#[]⟩ : ByteArray)) := (zK BK227.out 2).trans rfl
              have hfz94_0 := zF BK227.out 0
              have hfz94_1 := zF BK227.out 1
              have hfz94_2 := zF BK227.out 2
              try go_wp2_with (first | ((with_reducible refine gate_callee (f := 16) rfl ?_); refine goesL_ (some 79) rfl rfl Try.func16 (by kernel_rfl) rfl #[.agg #[.int .i64 (wrap64 (rd l0 0)), .int .i64 0, .string (strOfNums ((l0.take ((wrap64 (2 + (wrap64 (rd l0 1)))) : Int).toNat).drop 2))]] rfl (by (try simp only [List.map_toArray, List.map_cons, List.map_nil]); first | done | rfl | (simp only [List.length_drop, List.length_take]; rfl)) ?_; (with_reducible refine (spec_ValueBytes.calls kj65 (wrap64 (rd l0 0)) 0 (strOfNums ((l0.take ((wrap64 (2 + (wrap64 (rd l0 1)))) : Int).toNat).drop 2)) t237 _ A80.out).mono ?_); rintro e w95 ⟨v238, rfl, ho0, hb⟩; refine ⟨_, rfl, ?_⟩; have n0_ := zM (Kd.R_lower ho0 (zI (by repeat (first | (with_reducible first | exact HB.out | apply zU | apply zV | apply zW | refine zH ?_ GE225.out | refine zH ?_ GE227.out) | exact HB.out)))); have n1_ := zM (zJ (g := gb225) (o := .cells #[.int .i64 0, .int .i64 0, .string (⟨#[]⟩ : ByteArray)] 27 (0, 0)) (by (with_reducible repeat (first | refine zX ?_ _ | refine zY ?_ | refine zZ ?_ _)); refine blk_far ?_ NB225_227.out _; (with_reducible repeat (first | refine zX ?_ _ | refine zY ?_ | refine zZ ?_ _)); exact BK225.out) hb); have n2_ := zM (zJ (g := gb227) (o := .cells #[.int .i64 (wrap64 (rd l0 0)), .int .i64 0, .string (strOfNums ((l0.take ((wrap64 (2 + (wrap64 (rd l0 1)))) : Int).toNat).drop 2))] 27 (0, 0)) (by (with_reducible repeat (first | refine zX ?_ _ | refine zY ?_ | refine zZ ?_ _)); refine blk_put (cs := #[.int .i64 (wrap64 (rd l0 0)), .int .i64 0, .string (⟨#[]⟩ : ByteArray)]) ?_ 2 _ rfl; (with_reducible repeat (first | refine zX ?_ _ | refine zY ?_ | refine zZ ?_ _)); exact BK227.out) hb); have n3_ := zM (zG (by repeat (first | (with_reducible first | exact HB.out | apply zU | apply zV | apply zW | refine zH ?_ GE225.out | refine zH ?_ GE227.out) | exact HB.out)) hb); clear BK225; clear BK227; clear HB; have HO239 := n0_; have BK225 := n1_; have BK227 := n2_; have HB := n3_; clear n0_ n1_ n2_ n3_; (try clear hb); (try clear hb2); (try clear hk); (try clear hi); (try clear ho0)))
              have n0_ := zM (zT HO239.out)
              have n1_ := zM (zY BK225.out)
              have n2_ := zM (zY BK227.out)
              have n3_ := zM (zW HB.out)
              clear HO239
              clear BK225
              clear BK227
              clear HB
              have HO239 := n0_
              have BK225 := n1_
              have BK227 := n2_
              have HB := n3_
              clear n0_ n1_ n2_ n3_
              obtain ⟨Ao97, co97, eo97⟩ := Kd.R_slice HO239.out
              (first | subst eo97 | (injection eo97 with f1_ f2_ f3_; have f4_ := f1_.symm; have f5_ := f3_.symm; clear f1_ f2_ f3_; subst f4_; subst f5_))
              refine start_ (n := 20) (S := fun w' => True) (ds := []) #[ff, ff, ff, ff, ff, ff, ff, ff, ff, ff, ff, ff, ff, ff, ff, ff, ff, ff, ff, ff] (by kernel_rfl) rfl rfl trivial (fun hHeld => ?_); refine with_tabW spec_ValueFrom.tab11 spec_ValueFrom.bits11 (fun HT_ HW_ => ?_)
              generalize w95.drew = w96 at HO239 BK225 BK227 HB hHeld ⊢
              refine pure_ (i := 0) (N := some 80) (v := ?_) (a' := ?_) #[tt, ff, ff, ff, ff, ff, ff, ff, ff, ff, ff, ff, ff, ff, ff, ff, ff, ff, ff, ff] rfl rfl (any_of HT_.out (by kernel_rfl)) (fun _ _ _ h => h) (Or.inl ⟨by rfl, ?_⟩) ?_ ?_
              rotate_left
              ·
               intro w'
               go_simp
               with_reducible rfl
              rotate_left
              ·
               simp only [Act.put, zA, zB, zC, i64_w, i32_w]
               rfl
              refine pure_ (i := 1) (N := some 81) (v := ?_) (a' := ?_) #[tt, tt, ff, ff, ff, ff, ff, ff, ff, ff, ff, ff, ff, ff, ff, ff, ff, ff, ff, ff] rfl rfl (any_of HT_.out (by kernel_rfl)) (fun _ _ _ h => h) (Or.inl ⟨by rfl, ?_⟩) ?_ ?_
              rotate_left
              ·
               intro w'
               go_simp
               with_reducible rfl
              rotate_left
              ·
               simp only [Act.put, zA, zB, zC, i64_w, i32_w]
               rfl
              refine pure_ (i := 2) (N := some 82) (v := ?_) (a' := ?_) #[tt, tt, tt, ff, ff, ff, ff, ff, ff, ff, ff, ff, ff, ff, ff, ff, ff, ff, ff, ff] rfl rfl (any_of HT_.out (by kernel_rfl)) (fun _ _ _ h => h) (Or.inl ⟨by rfl, ?_⟩) ?_ ?_
              rotate_left
              ·
               intro w'
               go_simp
               with_reducible rfl
              rotate_left
              ·
               simp only [Act.put, zA, zB, zC, i64_w, i32_w]
               rfl
              refine pure_ (i := 3) (N := some 83) (v := ?_) (a' := ?_) #[tt, tt, tt, tt, ff, ff, ff, ff, ff, ff, ff, ff, ff, ff, ff, ff, ff, ff, ff, ff] rfl rfl (any_of HT_.out (by kernel_rfl)) (fun _ _ _ h => h) (Or.inl ⟨by rfl, ?_⟩) ?_ ?_
              rotate_left
              ·
               intro w'
               go_simp
               with_reducible rfl
              rotate_left
              ·
               simp only [Act.put, zA, zB, zC, i64_w, i32_w]
               rfl
              refine pure_ (i := 4) (N := some 84) (v := ?_) (a' := ?_) #[tt, tt, tt, tt, tt, ff, ff, ff, ff, ff, ff, ff, ff, ff, ff, ff, ff, ff, ff, ff] rfl rfl (any_of HT_.out (by kernel_rfl)) (fun _ _ _ h => h) (Or.inl ⟨by rfl, ?_⟩) ?_ ?_
              rotate_left
              ·
               intro w'
               go_simp
               with_reducible rfl
              rotate_left
              ·
               simp only [Act.put, zA, zB, zC, i64_w, i32_w]
               rfl
              refine pure_ (i := 5) (N := some 85) (v := ?_) (a' := ?_) #[tt, tt, tt, tt, tt, tt, ff, ff, ff, ff, ff, ff, ff, ff, ff, ff, ff, ff, ff, ff] rfl rfl (any_of HT_.out (by kernel_rfl)) (fun _ _ _ h => h) (Or.inl ⟨by rfl, ?_⟩) ?_ ?_
              rotate_left
              ·
               intro w'
               go_simp
               with_reducible rfl
              rotate_left
              ·
               simp only [Act.put, zA, zB, zC, i64_w, i32_w]
               rfl
              refine pure_ (i := 6) (N := some 86) (v := ?_) (a' := ?_) #[tt, tt, tt, tt, tt, tt, tt, ff, ff, ff, ff, ff, ff, ff, ff, ff, ff, ff, ff, ff] rfl rfl (any_of HT_.out (by kernel_rfl)) (fun _ _ _ h => h) (Or.inl ⟨by rfl, ?_⟩) ?_ ?_
              rotate_left
              ·
               intro w'
               go_simp
               with_reducible rfl
              rotate_left
              ·
               simp only [Act.put, zA, zB, zC, i64_w, i32_w]
               rfl
              refine pure_ (i := 7) (N := some 87) (v := ?_) (a' := ?_) #[tt, tt, tt, tt, tt, tt, tt, tt, ff, ff, ff, ff, ff, ff, ff, ff, ff, ff, ff, ff] rfl rfl (any_of HT_.out (by kernel_rfl)) (fun _ _ _ h => h) (Or.inl ⟨by rfl, ?_⟩) ?_ ?_
              rotate_left
              ·
               intro w'
               go_simp
               with_reducible rfl
              rotate_left
              ·
               simp only [Act.put, zA, zB, zC, i64_w, i32_w]
               rfl
              refine pure_ (i := 8) (N := some 88) (v := ?_) (a' := ?_) #[tt, tt, tt, tt, tt, tt, tt, tt, tt, ff, ff, ff, ff, ff, ff, ff, ff, ff, ff, ff] rfl rfl (any_of HT_.out (by kernel_rfl)) (fun _ _ _ h => h) (Or.inl ⟨by rfl, ?_⟩) ?_ ?_
              rotate_left
              ·
               intro w'
               go_simp
               with_reducible rfl
              rotate_left
              ·
               simp only [Act.put, zA, zB, zC, i64_w, i32_w]
               rfl
              refine pure_ (i := 9) (N := some 89) (v := ?_) (a' := ?_) #[tt, tt, tt, tt, tt, tt, tt, tt, tt, tt, ff, ff, ff, ff, ff, ff, ff, ff, ff, ff] rfl rfl (any_of HT_.out (by kernel_rfl)) (fun _ _ _ h => h) (Or.inl ⟨by rfl, ?_⟩) ?_ ?_
              rotate_left
              ·
               intro w'
               go_simp
               with_reducible rfl
              rotate_left
              ·
               simp only [Act.put, zA, zB, zC, i64_w, i32_w]
               rfl
              refine pure_ (i := 10) (N := some 90) (v := ?_) (a' := ?_) #[tt, tt, tt, tt, tt, tt, tt, tt, tt, tt, tt, ff, ff, ff, ff, ff, ff, ff, ff, ff] rfl rfl (any_of HT_.out (by kernel_rfl)) (fun _ _ _ h => h) (Or.inl ⟨by rfl, ?_⟩) ?_ ?_
              rotate_left
              ·
               intro w'
               go_simp
               with_reducible rfl
              rotate_left
              ·
               simp only [Act.put, zA, zB, zC, i64_w, i32_w]
               rfl
              refine pure_ (i := 11) (N := some 91) (v := undef) (a' := ?_) #[tt, tt, tt, tt, tt, tt, tt, tt, tt, tt, tt, tt, ff, ff, ff, ff, ff, ff, ff, ff] rfl rfl (any_of HT_.out (by kernel_rfl)) (fun _ _ _ h => h) (Or.inr ⟨by rfl, rfl⟩) ?_ ?_
              rotate_left
              ·
               simp only [Act.put, zA, zB, zC, i64_w, i32_w]
               rfl
              refine pure_ (i := 12) (N := some 92) (v := undef) (a' := ?_) #[tt, tt, tt, tt, tt, tt, tt, tt, tt, tt, tt, tt, tt, ff, ff, ff, ff, ff, ff, ff] rfl rfl (any_of HT_.out (by kernel_rfl)) (fun _ _ _ h => h) (Or.inr ⟨by rfl, rfl⟩) ?_ ?_
              rotate_left
              ·
               simp only [Act.put, zA, zB, zC, i64_w, i32_w]
               rfl
              refine pure_ (i := 13) (N := some 93) (v := undef) (a' := ?_) #[tt, tt, tt, tt, tt, tt, tt, tt, tt, tt, tt, tt, tt, tt, ff, ff, ff, ff, ff, ff] rfl rfl (any_of HT_.out (by kernel_rfl)) (fun _ _ _ h => h) (Or.inr ⟨by rfl, rfl⟩) ?_ ?_
              rotate_left
              ·
               simp only [Act.put, zA, zB, zC, i64_w, i32_w]
               rfl
              refine pure_ (i := 14) (N := some 94) (v := undef) (a' := ?_) #[tt, tt, tt, tt, tt, tt, tt, tt, tt, tt, tt, tt, tt, tt, tt, ff, ff, ff, ff, ff] rfl rfl (any_of HT_.out (by kernel_rfl)) (fun _ _ _ h => h) (Or.inr ⟨by rfl, rfl⟩) ?_ ?_
              rotate_left
              ·
               simp only [Act.put, zA, zB, zC, i64_w, i32_w]
               rfl
              refine pure_ (i := 15) (N := some 95) (v := undef) (a' := ?_) #[tt, tt, tt, tt, tt, tt, tt, tt, tt, tt, tt, tt, tt, tt, tt, tt, ff, ff, ff, ff] rfl rfl (any_of HT_.out (by kernel_rfl)) (fun _ _ _ h => h) (Or.inr ⟨by rfl, rfl⟩) ?_ ?_
              rotate_left
              ·
               simp only [Act.put, zA, zB, zC, i64_w, i32_w]
               rfl
              refine pure_ (i := 16) (N := some 96) (v := undef) (a' := ?_) #[tt, tt, tt, tt, tt, tt, tt, tt, tt, tt, tt, tt, tt, tt, tt, tt, tt, ff, ff, ff] rfl rfl (any_of HT_.out (by kernel_rfl)) (fun _ _ _ h => h) (Or.inr ⟨by rfl, rfl⟩) ?_ ?_
              rotate_left
              ·
               simp only [Act.put, zA, zB, zC, i64_w, i32_w]
               rfl
              refine pure_ (i := 17) (N := some 97) (v := undef) (a' := ?_) #[tt, tt, tt, tt, tt, tt, tt, tt, tt, tt, tt, tt, tt, tt, tt, tt, tt, tt, ff, ff] rfl rfl (any_of HT_.out (by kernel_rfl)) (fun _ _ _ h => h) (Or.inr ⟨by rfl, rfl⟩) ?_ ?_
              rotate_left
              ·
               simp only [Act.put, zA, zB, zC, i64_w, i32_w]
               rfl
              refine pure_ (i := 18) (N := some 98) (v := undef) (a' := ?_) #[tt, tt, tt, tt, tt, tt, tt, tt, tt, tt, tt, tt, tt, tt, tt, tt, tt, tt, tt, ff] rfl rfl (any_of HT_.out (by kernel_rfl)) (fun _ _ _ h => h) (Or.inr ⟨by rfl, rfl⟩) ?_ ?_
              rotate_left
              ·
               simp only [Act.put, zA, zB, zC, i64_w, i32_w]
               rfl
              refine pure_ (i := 19) (N := some 99) (v := ?_) (a' := ?_) #[tt, tt, tt, tt, tt, tt, tt, tt, tt, tt, tt, tt, tt, tt, tt, tt, tt, tt, tt, tt] rfl rfl (any_of HT_.out (by kernel_rfl)) (fun _ _ _ h => h) (Or.inl ⟨by rfl, ?_⟩) ?_ ?_
              rotate_left
              ·
               intro w'
               go_simp
               with_reducible rfl
              rotate_left
              ·
               simp only [Act.put, zA, zB, zC, i64_w, i32_w]
               rfl
              refine done_ (done_of HT_.out (by kernel_rfl)) ?_
              have hcz98_0 : w96.cell? ⟨gb225, 0, none⟩ = some (.int .i64 0) := (zK BK225.out 0).trans rfl
              have hcz98_1 : w96.cell? ⟨gb225, 1, none⟩ = some (.int .i64 0) := (zK BK225.out 1).trans rfl
              have hcz98_2 : w96.cell? ⟨gb225, 2, none⟩ = some (.string (⟨#[]⟩ : ByteArray)) := (zK BK225.out 2).trans rfl
              have hfz98_0 := zF BK225.out 0
              have hfz98_1 := zF BK225.out 1
              have hfz98_2 := zF BK225.out 2
              try go_wp2
              refine bodyPost_ret (results_ct rfl _ _ gb225 27 #[.int .i64 0, .int .i64 0, .string (⟨#[]⟩ : ByteArray)] (0, 0) _ rfl (by (with_reducible repeat (first | refine zX ?_ _ | refine zY ?_ | refine zZ ?_ _)); refine blk_put (cs := #[.int .i64 0, .int .i64 0, .string (⟨#[]⟩ : ByteArray)]) ?_ 2 _ rfl; (with_reducible repeat (first | refine zX ?_ _ | refine zY ?_ | refine zZ ?_ _)); refine blk_put (cs := #[.int .i64 0, .int .i64 0, .string (⟨#[]⟩ : ByteArray)]) ?_ 1 _ rfl; (with_reducible repeat (first | refine zX ?_ _ | refine zY ?_ | refine zZ ?_ _)); refine blk_put (cs := #[.int .i64 0, .int .i64 0, .string (⟨#[]⟩ : ByteArray)]) ?_ 0 _ rfl; (with_reducible repeat (first | refine zX ?_ _ | refine zY ?_ | refine zZ ?_ _)); exact BK225.out) Try.underlying27 rfl (by kernel_rfl)) rfl ?_
              exact ⟨by first | rfl | (simp [errW_none, errW_some] <;> rfl) | (simp [*, errW_none, errW_some] <;> rfl), by repeat (first | (with_reducible first | exact HB.out | apply zU | apply zV | apply zW | refine zH ?_ GE225.out | refine zH ?_ GE227.out) | exact HB.out)⟩
             ·
              rw [if_neg c90] at H
              have c90b0 : decide ((l0.length : Int) < (t237.length : Int)) = false := decide_eq_false c90
              have c90b1 : decide (l0.length < t237.length) = false := decide_eq_false (fun h => c90 (Int.ofNat_lt.mpr h))
              clear c90
              by_cases c99 : 0 ≤ (t237.length : Int)
              ·
               rw [if_pos c99] at H
               have c99b0 := eq_true c99
               have c99b1 : decide (0 ≤ (t237.length : Int)) = true := decide_eq_true c99
               clear c99
               by_cases c100 : (t237.length : Int) ≤ (l0.length : Int)
               ·
                rw [if_pos c100] at H
                have c100b0 := eq_true c100
                have c100b1 : decide ((t237.length : Int) ≤ (l0.length : Int)) = true := decide_eq_true c100
                clear c100
                by_cases c101 : (strOfNums t237).toList = (strOfNums (l0.take ((t237.length : Int) : Int).toNat)).toList
                ·
                 rw [if_pos c101] at H
                 have c101b0 : ((strOfNums t237).toList == (strOfNums (l0.take ((t237.length : Int) : Int).toNat)).toList) = true := beq_iff_eq.mpr c101
                 have c101b2 : ((strOfNums t237).toList == (strOfNums (l0.take t237.length)).toList) = true := c101b0
                 have c101b1 : ((strOfNums t237).toList != (strOfNums (l0.take ((t237.length : Int) : Int).toNat)).toList) = false := bne_eq_false_iff_eq.mpr c101
                 have c101b3 : ((strOfNums t237).toList != (strOfNums (l0.take t237.length)).toList) = false := c101b1
                 clear c101
                 simp only [Option.some.injEq, Prod.mk.injEq] at H
                 obtain ⟨rfl, rfl, rfl, rfl⟩ := H
                 have p235 : 0 ≤ (1 : Int) := (by omega)
                 have q235 : 1 < (l0.length : Int) := zL (by assumption)
                 obtain ⟨ad235, e235, hx235_0⟩ := Kd.at_int HR0.out 1 p235 q235
                 obtain rfl : ad226 = ad235 := (by injection e235)
                 (try simp only [show (1 : Int).toNat = 1 from rfl, Nat.reduceMul, Nat.reduceEqDiff, Go.Addr.add, ↓reduceIte] at hx235_0)
                 have qi235 : (1 < l0.length) = True := eq_true (by omega)
                 (try rw [show ((1 : Int)).toNat = 1 from rfl] at hx235_0)
                 replace hx235_0 := (HB.out.cell (World.block_lt_of_cell? w _ hx235_0)).trans hx235_0
                 replace p235 := eq_true p235
                 replace q235 := eq_true q235
                 obtain ⟨i0102, hi0102, _, hsz102, _⟩ := info_parts info5
                 obtain ⟨A102, hcut102, hA102, hC102⟩ := print_mid_of (P := Try.prog) (Value.int .u8) 0 25 5 .i64 .i64 Try.underlying25 hi0102 hsz102 (some ad226) c0 l0 2 (wrap64 (2 + (wrap64 (rd l0 1)))) (by omega) (by first | omega | exact zL (by assumption)) (zL (by assumption)) HC0.out
                 have HR236 := zM (Kd.C_of_reads (h1 := fun _ => rfl) (hA102 _ (Kd.reads_of_C HR0.out)))
                 have HC236 := zM hC102
                 clear hA102 hC102 hi0102 hsz102
                 have hcv103 := Kd.C_string (P := Try.prog) (A := A102) (c := (c0 - 2)) Try.underlying25 Try.underlying5 Try.underlying9 (Kd.C_below HR236.out HB.out)
                 have hce_ : (wrap64 (2 + (wrap64 (rd l0 1)))) ≤ (l0.length : Int) := zL (by first | (with_reducible assumption) | assumption)
                 rw [List.length_drop, List.length_take, Nat.min_eq_left (by omega)] at hcv103
                 (try simp only [Int.reduceToNat] at hcv103)
                 clear hce_
                 have hnb104 := NB227_225.out
                 have hnc104 := NB225_227.out
                 have hcz105_0 : wc.cell? ⟨gb227, 0, none⟩ = some (.int .i64 (wrap64 (rd l0 0))) := (zK BK227.out 0).trans rfl
                 have hcz105_1 : wc.cell? ⟨gb227, 1, none⟩ = some (.int .i64 0) := (zK BK227.out 1).trans rfl
                 have hcz105_2 : wc.cell? ⟨gb227, 2, none⟩ = some (.string (⟨#[]⟩ : ByteArray)) := (zK BK227.out 2).trans rfl
                 have hfz105_0 := zF BK227.out 0
                 have hfz105_1 := zF BK227.out 1
                 have hfz105_2 := zF BK227.out 2
                 try go_wp2_with (first | ((with_reducible refine gate_callee (f := 16) rfl ?_); refine goesL_ (some 79) rfl rfl Try.func16 (by kernel_rfl) rfl #[.agg #[.int .i64 (wrap64 (rd l0 0)), .int .i64 0, .string (strOfNums ((l0.take ((wrap64 (2 + (wrap64 (rd l0 1)))) : Int).toNat).drop 2))]] rfl (by (try simp only [List.map_toArray, List.map_cons, List.map_nil]); first | done | rfl | (simp only [List.length_drop, List.length_take]; rfl)) ?_; (with_reducible refine (spec_ValueBytes.calls kj65 (wrap64 (rd l0 0)) 0 (strOfNums ((l0.take ((wrap64 (2 + (wrap64 (rd l0 1)))) : Int).toNat).drop 2)) t237 _ A80.out).mono ?_); rintro e w106 ⟨v238, rfl, ho0, hb⟩; refine ⟨_, rfl, ?_⟩; have n0_ := zM (Kd.R_lower ho0 (zI (by repeat (first | (with_reducible first | exact HB.out | apply zU | apply zV | apply zW | refine zH ?_ GE225.out | refine zH ?_ GE227.out) | exact HB.out)))); have n1_ := zM (zJ (g := gb225) (o := .cells #[.int .i64 0, .int .i64 0, .string (⟨#[]⟩ : ByteArray)] 27 (0, 0)) (by (with_reducible repeat (first | refine zX ?_ _ | refine zY ?_ | refine zZ ?_ _)); refine blk_far ?_ NB225_227.out _; (with_reducible repeat (first | refine zX ?_ _ | refine zY ?_ | refine zZ ?_ _)); exact BK225.out) hb); have n2_ := zM (zJ (g := gb227) (o := .cells #[.int .i64 (wrap64 (rd l0 0)), .int .i64 0, .string (strOfNums ((l0.take ((wrap64 (2 + (wrap64 (rd l0 1)))) : Int).toNat).drop 2))] 27 (0, 0)) (by (with_reducible repeat (first | refine zX ?_ _ | refine zY ?_ | refine zZ ?_ _)); refine blk_put (cs := #[.int .i64 (wrap64 (rd l0 0)), .int .i64 0, .string (⟨#[]⟩ : ByteArray)]) ?_ 2 _ rfl; (with_reducible repeat (first | refine zX ?_ _ | refine zY ?_ | refine zZ ?_ _)); exact BK227.out) hb); have n3_ := zM (zG (by repeat (first | (with_reducible first | exact HB.out | apply zU | apply zV | apply zW | refine zH ?_ GE225.out | refine zH ?_ GE227.out) | exact HB.out)) hb); clear BK225; clear BK227; clear HB; have HO239 := n0_; have BK225 := n1_; have BK227 := n2_; have HB := n3_; clear n0_ n1_ n2_ n3_; (try clear hb); (try clear hb2); (try clear hk); (try clear hi); (try clear ho0)))
                 have n0_ := zM (zT HO239.out)
                 have n1_ := zM (zY BK225.out)
                 have n2_ := zM (zY BK227.out)
                 have n3_ := zM (zW HB.out)
                 clear HO239
                 clear BK225
                 clear BK227
                 clear HB
                 have HO239 := n0_
                 have BK225 := n1_
                 have BK227 := n2_
                 have HB := n3_
                 clear n0_ n1_ n2_ n3_
                 obtain ⟨Ao108, co108, eo108⟩ := Kd.R_slice HO239.out
                 (first | subst eo108 | (injection eo108 with f1_ f2_ f3_; have f4_ := f1_.symm; have f5_ := f3_.symm; clear f1_ f2_ f3_; subst f4_; subst f5_))
                 obtain ⟨i0109, hi0109, _, hsz109, _⟩ := info_parts info5
                 obtain ⟨hcut109, hA109, hC109⟩ := print_take_of (P := Try.prog) (Value.int .u8) 0 25 5 .i64 Try.underlying25 hi0109 hsz109 (some ad226) c0 l0 (t237.length : Int) (zL (by assumption)) (zL (by assumption)) HC0.out
                 have HR240 := zM (Kd.C_of_reads (h1 := fun _ => rfl) (hA109 _ (Kd.reads_of_C HR0.out)))
                 have HC240 := zM hC109
                 clear hA109 hC109 hi0109 hsz109
                 have hcv110 := own_string (P := Try.prog) Try.underlying25 Try.underlying5 Try.underlying9 (Kd.own_of_R HO239.out)
                 have hcv111 := Kd.C_string (P := Try.prog) (A := (some ad226)) (c := c0) Try.underlying25 Try.underlying5 Try.underlying9 (Kd.C_below HR240.out HB.out)
                 rw [List.length_take, show min (Int.toNat (t237.length : Int)) l0.length = min t237.length l0.length from rfl] at hcv111
                 refine start_ (n := 20) (S := fun w' => w' = w106.drew) (ds := []) #[ff, ff, ff, ff, ff, ff, ff, ff, ff, ff, ff, ff, ff, ff, ff, ff, ff, ff, ff, ff] (by kernel_rfl) rfl rfl rfl (fun hHeld => ?_); refine with_tabW spec_ValueFrom.tab11 spec_ValueFrom.bits11 (fun HT_ HW_ => ?_)
                 generalize w106.drew = w107 at HO239 BK225 BK227 HB HR240 hcv110 hcv111 hHeld ⊢
                 refine pure_ (i := 0) (N := some 80) (v := ?_) (a' := ?_) #[tt, ff, ff, ff, ff, ff, ff, ff, ff, ff, ff, ff, ff, ff, ff, ff, ff, ff, ff, ff] rfl rfl (any_of HT_.out (by kernel_rfl)) (fun _ _ _ h => h) (Or.inl ⟨by rfl, ?_⟩) ?_ ?_
                 rotate_left
                 ·
                  intro w'
                  go_simp
                  with_reducible rfl
                 rotate_left
                 ·
                  simp only [Act.put, zA, zB, zC, i64_w, i32_w]
                  rfl
                 refine pure_ (i := 1) (N := some 81) (v := ?_) (a' := ?_) #[tt, tt, ff, ff, ff, ff, ff, ff, ff, ff, ff, ff, ff, ff, ff, ff, ff, ff, ff, ff] rfl rfl (any_of HT_.out (by kernel_rfl)) (fun _ _ _ h => h) (Or.inl ⟨by rfl, ?_⟩) ?_ ?_
                 rotate_left
                 ·
                  intro w'
                  go_simp
                  with_reducible rfl
                 rotate_left
                 ·
                  simp only [Act.put, zA, zB, zC, i64_w, i32_w]
                  rfl
                 refine pure_ (i := 2) (N := some 82) (v := ?_) (a' := ?_) #[tt, tt, tt, ff, ff, ff, ff, ff, ff, ff, ff, ff, ff, ff, ff, ff, ff, ff, ff, ff] rfl rfl (any_of HT_.out (by kernel_rfl)) (fun _ _ _ h => h) (Or.inl ⟨by rfl, ?_⟩) ?_ ?_
                 rotate_left
                 ·
                  intro w'
                  go_simp
                  with_reducible rfl
                 rotate_left
                 ·
                  simp only [Act.put, zA, zB, zC, i64_w, i32_w]
                  rfl
                 refine pure_ (i := 3) (N := some 83) (v := ?_) (a' := ?_) #[tt, tt, tt, tt, ff, ff, ff, ff, ff, ff, ff, ff, ff, ff, ff, ff, ff, ff, ff, ff] rfl rfl (any_of HT_.out (by kernel_rfl)) (fun _ _ _ h => h) (Or.inl ⟨by rfl, ?_⟩) ?_ ?_
                 rotate_left
                 ·
                  intro w'
                  go_simp
                  with_reducible rfl
                 rotate_left
                 ·
                  simp only [Act.put, zA, zB, zC, i64_w, i32_w]
                  rfl
                 refine pure_ (i := 4) (N := some 84) (v := ?_) (a' := ?_) #[tt, tt, tt, tt, tt, ff, ff, ff, ff, ff, ff, ff, ff, ff, ff, ff, ff, ff, ff, ff] rfl rfl (any_of HT_.out (by kernel_rfl)) (fun _ _ _ h => h) (Or.inl ⟨by rfl, ?_⟩) ?_ ?_
                 rotate_left
                 ·
                  intro w'
                  go_simp
                  with_reducible rfl
                 rotate_left
                 ·
                  simp only [Act.put, zA, zB, zC, i64_w, i32_w]
                  rfl
                 refine pure_ (i := 5) (N := some 85) (v := ?_) (a' := ?_) #[tt, tt, tt, tt, tt, tt, ff, ff, ff, ff, ff, ff, ff, ff, ff, ff, ff, ff, ff, ff] rfl rfl (any_of HT_.out (by kernel_rfl)) (fun _ _ _ h => h) (Or.inl ⟨by rfl, ?_⟩) ?_ ?_
                 rotate_left
                 ·
                  intro w'
                  go_simp
                  with_reducible rfl
                 rotate_left
                 ·
                  simp only [Act.put, zA, zB, zC, i64_w, i32_w]
                  rfl
                 refine pure_ (i := 6) (N := some 86) (v := ?_) (a' := ?_) #[tt, tt, tt, tt, tt, tt, tt, ff, ff, ff, ff, ff, ff, ff, ff, ff, ff, ff, ff, ff] rfl rfl (any_of HT_.out (by kernel_rfl)) (fun _ _ _ h => h) (Or.inl ⟨by rfl, ?_⟩) ?_ ?_
                 rotate_left
                 ·
                  intro w'
                  go_simp
                  with_reducible rfl
                 rotate_left
                 ·
                  simp only [Act.put, zA, zB, zC, i64_w, i32_w]
                  rfl
                 refine pure_ (i := 7) (N := some 87) (v := ?_) (a' := ?_) #[tt, tt, tt, tt, tt, tt, tt, tt, ff, ff, ff, ff, ff, ff, ff, ff, ff, ff, ff, ff] rfl rfl (any_of HT_.out (by kernel_rfl)) (fun _ _ _ h => h) (Or.inl ⟨by rfl, ?_⟩) ?_ ?_
                 rotate_left
                 ·
                  intro w'
                  go_simp
                  with_reducible rfl
                 rotate_left
                 ·
                  simp only [Act.put, zA, zB, zC, i64_w, i32_w]
                  rfl
                 refine pure_ (i := 8) (N := some 88) (v := ?_) (a' := ?_) #[tt, tt, tt, tt, tt, tt, tt, tt, tt, ff, ff, ff, ff, ff, ff, ff, ff, ff, ff, ff] rfl rfl (any_of HT_.out (by kernel_rfl)) (fun _ _ _ h => h) (Or.inl ⟨by rfl, ?_⟩) ?_ ?_
                 rotate_left
                 ·
                  intro w'
                  go_simp
                  with_reducible rfl
                 rotate_left
                 ·
                  simp only [Act.put, zA, zB, zC, i64_w, i32_w]
                  rfl
                 refine pure_ (i := 9) (N := some 89) (v := ?_) (a' := ?_) #[tt, tt, tt, tt, tt, tt, tt, tt, tt, tt, ff, ff, ff, ff, ff, ff, ff, ff, ff, ff] rfl rfl (any_of HT_.out (by kernel_rfl)) (fun _ _ _ h => h) (Or.inl ⟨by rfl, ?_⟩) ?_ ?_
                 rotate_left
                 ·
                  intro w'
                  go_simp
                  with_reducible rfl
                 rotate_left
                 ·
                  simp only [Act.put, zA, zB, zC, i64_w, i32_w]
                  rfl
                 refine pure_ (i := 10) (N := some 90) (v := ?_) (a' := ?_) #[tt, tt, tt, tt, tt, tt, tt, tt, tt, tt, tt, ff, ff, ff, ff, ff, ff, ff, ff, ff] rfl rfl (any_of HT_.out (by kernel_rfl)) (fun _ _ _ h => h) (Or.inl ⟨by rfl, ?_⟩) ?_ ?_
                 rotate_left
                 ·
                  intro w'
                  go_simp
                  with_reducible rfl
                 rotate_left
                 ·
                  simp only [Act.put, zA, zB, zC, i64_w, i32_w]
                  rfl
                 refine pure_ (i := 11) (N := some 91) (v := ?_) (a' := ?_) #[tt, tt, tt, tt, tt, tt, tt, tt, tt, tt, tt, tt, ff, ff, ff, ff, ff, ff, ff, ff] rfl rfl (any_of HT_.out (by kernel_rfl)) (fun _ _ _ h => h) (Or.inl ⟨by rfl, ?_⟩) ?_ ?_
                 rotate_left
                 ·
                  intro w'
                  go_simp
                  with_reducible rfl
                 rotate_left
                 ·
                  simp only [Act.put, zA, zB, zC, i64_w, i32_w]
                  rfl
                 refine take_ (i := 12) (N := some 92) (v := ?_) (a' := ?_) #[tt, tt, tt, tt, tt, tt, tt, tt, tt, tt, tt, tt, tt, ff, ff, ff, ff, ff, ff, ff] rfl rfl (take_ofW HT_.out HW_.out (by kernel_rfl)) (fun _ _ _ h => h) (Or.inl ⟨by rfl, ?_⟩) hHeld ?_ ?_
                 rotate_left
                 ·
                  rintro w' rfl
                  go_simp
                  with_reducible rfl
                 rotate_left
                 ·
                  simp only [Act.put, zA, zB, zC, i64_w, i32_w]
                  rfl
                 refine pure_ (i := 13) (N := some 93) (v := ?_) (a' := ?_) #[tt, tt, tt, tt, tt, tt, tt, tt, tt, tt, tt, tt, tt, tt, ff, ff, ff, ff, ff, ff] rfl rfl (any_of HT_.out (by kernel_rfl)) (fun _ _ _ h => h) (Or.inl ⟨by rfl, ?_⟩) ?_ ?_
                 rotate_left
                 ·
                  intro w'
                  go_simp
                  with_reducible rfl
                 rotate_left
                 ·
                  simp only [Act.put, zA, zB, zC, i64_w, i32_w]
                  rfl
                 refine pure_ (i := 14) (N := some 94) (v := ?_) (a' := ?_) #[tt, tt, tt, tt, tt, tt, tt, tt, tt, tt, tt, tt, tt, tt, tt, ff, ff, ff, ff, ff] rfl rfl (any_of HT_.out (by kernel_rfl)) (fun _ _ _ h => h) (Or.inl ⟨by rfl, ?_⟩) ?_ ?_
                 rotate_left
                 ·
                  intro w'
                  go_simp
                  with_reducible rfl
                 rotate_left
                 ·
                  simp only [Act.put, zA, zB, zC, i64_w, i32_w]
                  rfl
                 refine pure_ (i := 15) (N := some 95) (v := ?_) (a' := ?_) #[tt, tt, tt, tt, tt, tt, tt, tt, tt, tt, tt, tt, tt, tt, tt, tt, ff, ff, ff, ff] rfl rfl (any_of HT_.out (by kernel_rfl)) (fun _ _ _ h => h) (Or.inl ⟨by rfl, ?_⟩) ?_ ?_
                 rotate_left
                 ·
                  intro w'
                  go_simp
                  with_reducible rfl
                 rotate_left
                 ·
                  simp only [Act.put, zA, zB, zC, i64_w, i32_w]
                  rfl
                 refine pure_ (i := 16) (N := some 96) (v := ?_) (a' := ?_) #[tt, tt, tt, tt, tt, tt, tt, tt, tt, tt, tt, tt, tt, tt, tt, tt, tt, ff, ff, ff] rfl rfl (any_of HT_.out (by kernel_rfl)) (fun _ _ _ h => h) (Or.inl ⟨by rfl, ?_⟩) ?_ ?_
                 rotate_left
                 ·
                  intro w'
                  go_simp
                  with_reducible rfl
                 rotate_left
                 ·
                  simp only [Act.put, zA, zB, zC, i64_w, i32_w]
                  rfl
                 refine take_ (i := 17) (N := some 97) (v := ?_) (a' := ?_) #[tt, tt, tt, tt, tt, tt, tt, tt, tt, tt, tt, tt, tt, tt, tt, tt, tt, tt, ff, ff] rfl rfl (take_ofW HT_.out HW_.out (by kernel_rfl)) (fun _ _ _ h => h) (Or.inl ⟨by rfl, ?_⟩) hHeld ?_ ?_
                 rotate_left
                 ·
                  rintro w' rfl
                  go_simp
                  with_reducible rfl
                 rotate_left
                 ·
                  simp only [Act.put, zA, zB, zC, i64_w, i32_w]
                  rfl
                 refine take_ (i := 18) (N := some 98) (v := ?_) (a' := ?_) #[tt, tt, tt, tt, tt, tt, tt, tt, tt, tt, tt, tt, tt, tt, tt, tt, tt, tt, tt, ff] rfl rfl (take_ofW HT_.out HW_.out (by kernel_rfl)) (fun _ _ _ h => h) (Or.inl ⟨by rfl, ?_⟩) hHeld ?_ ?_
                 rotate_left
                 ·
                  rintro w' rfl
                  go_simp
                  with_reducible rfl
                 rotate_left
                 ·
                  simp only [Act.put, zA, zB, zC, i64_w, i32_w]
                  rfl
                 refine pure_ (i := 19) (N := some 99) (v := ?_) (a' := ?_) #[tt, tt, tt, tt, tt, tt, tt, tt, tt, tt, tt, tt, tt, tt, tt, tt, tt, tt, tt, tt] rfl rfl (any_of HT_.out (by kernel_rfl)) (fun _ _ _ h => h) (Or.inl ⟨by rfl, ?_⟩) ?_ ?_
                 rotate_left
                 ·
                  intro w'
                  go_simp
                  with_reducible rfl
                 rotate_left
                 ·
                  simp only [Act.put, zA, zB, zC, i64_w, i32_w]
                  rfl
                 refine done_ (done_of HT_.out (by kernel_rfl)) ?_
                 have hcz113_0 : w107.cell? ⟨gb227, 0, none⟩ = some (.int .i64 (wrap64 (rd l0 0))) := (zK BK227.out 0).trans rfl
                 have hcz113_1 : w107.cell? ⟨gb227, 1, none⟩ = some (.int .i64 0) := (zK BK227.out 1).trans rfl
                 have hcz113_2 : w107.cell? ⟨gb227, 2, none⟩ = some (.string (strOfNums ((l0.take ((wrap64 (2 + (wrap64 (rd l0 1)))) : Int).toNat).drop 2))) := (zK BK227.out 2).trans rfl
                 have hfz113_0 := zF BK227.out 0
                 have hfz113_1 := zF BK227.out 1
                 have hfz113_2 := zF BK227.out 2
                 have hcz114_0 : w107.cell? ⟨gb225, 0, none⟩ = some (.int .i64 0) := (zK BK225.out 0).trans rfl
                 have hcz114_1 : w107.cell? ⟨gb225, 1, none⟩ = some (.int .i64 0) := (zK BK225.out 1).trans rfl
                 have hcz114_2 : w107.cell? ⟨gb225, 2, none⟩ = some (.string (⟨#[]⟩ : ByteArray)) := (zK BK225.out 2).trans rfl
                 have hfz114_0 := zF BK225.out 0
                 have hfz114_1 := zF BK225.out 1
                 have hfz114_2 := zF BK225.out 2
                 try go_wp2
                 refine bodyPost_ret (results_ct rfl _ _ gb225 27 #[.int .i64 (wrap64 (rd l0 0)), .int .i64 0, .string (strOfNums ((l0.take ((wrap64 (2 + (wrap64 (rd l0 1)))) : Int).toNat).drop 2))] (0, 0) _ rfl (by (with_reducible repeat (first | refine zX ?_ _ | refine zY ?_ | refine zZ ?_ _)); refine blk_put (cs := #[.int .i64 (wrap64 (rd l0 0)), .int .i64 0, .string (⟨#[]⟩ : ByteArray)]) ?_ 2 _ rfl; (with_reducible repeat (first | refine zX ?_ _ | refine zY ?_ | refine zZ ?_ _)); refine blk_put (cs := #[.int .i64 (wrap64 (rd l0 0)), .int .i64 0, .string (⟨#[]⟩ : ByteArray)]) ?_ 1 _ rfl; (with_reducible repeat (first | refine zX ?_ _ | refine zY ?_ | refine zZ ?_ _)); refine blk_put (cs := #[.int .i64 0, .int .i64 0, .string (⟨#[]⟩ : ByteArray)]) ?_ 0 _ rfl; (with_reducible repeat (first | refine zX ?_ _ | refine zY ?_ | refine zZ ?_ _)); exact BK225.out) Try.underlying27 rfl (by kernel_rfl)) rfl ?_
                 exact ⟨by first | rfl | (simp [errW_none, errW_some] <;> rfl) | (simp [*, errW_none, errW_some] <;> rfl), by repeat (first | (with_reducible first | exact HB.out | apply zU | apply zV | apply zW | refine zH ?_ GE225.out | refine zH ?_ GE227.out) | exact HB.out)⟩
                ·
                 rw [if_neg c101] at H
                 have c101b0 : ((strOfNums t237).toList == (strOfNums (l0.take ((t237.length : Int) : Int).toNat)).toList) = false := beq_eq_false_iff_ne.mpr c101
                 have c101b2 : ((strOfNums t237).toList == (strOfNums (l0.take t237.length)).toList) = false := c101b0
                 have c101b1 : ((strOfNums t237).toList != (strOfNums (l0.take ((t237.length : Int) : Int).toNat)).toList) = true := bne_iff_ne.mpr c101
                 have c101b3 : ((strOfNums t237).toList != (strOfNums (l0.take t237.length)).toList) = true := c101b1
                 simp only [Option.some.injEq, Prod.mk.injEq] at H
                 obtain ⟨rfl, rfl, rfl, rfl⟩ := H
                 have p235 : 0 ≤ (1 : Int) := (by omega)
                 have q235 : 1 < (l0.length : Int) := zL (by assumption)
                 obtain ⟨ad235, e235, hx235_0⟩ := Kd.at_int HR0.out 1 p235 q235
                 obtain rfl : ad226 = ad235 := (by injection e235)
                 (try simp only [show (1 : Int).toNat = 1 from rfl, Nat.reduceMul, Nat.reduceEqDiff, Go.Addr.add, ↓reduceIte] at hx235_0)
                 have qi235 : (1 < l0.length) = True := eq_true (by omega)
                 (try rw [show ((1 : Int)).toNat = 1 from rfl] at hx235_0)
                 replace hx235_0 := (HB.out.cell (World.block_lt_of_cell? w _ hx235_0)).trans hx235_0
                 replace p235 := eq_true p235
                 replace q235 := eq_true q235
                 obtain ⟨i0115, hi0115, _, hsz115, _⟩ := info_parts info5
                 obtain ⟨A115, hcut115, hA115, hC115⟩ := print_mid_of (P := Try.prog) (Value.int .u8) 0 25 5 .i64 .i64 Try.underlying25 hi0115 hsz115 (some ad226) c0 l0 2 (wrap64 (2 + (wrap64 (rd l0 1)))) (by omega) (by first | omega | exact zL (by assumption)) (zL (by assumption)) HC0.out
                 have HR236 := zM (Kd.C_of_reads (h1 := fun _ => rfl) (hA115 _ (Kd.reads_of_C HR0.out)))
                 have HC236 := zM hC115
                 clear hA115 hC115 hi0115 hsz115
                 have hcv116 := Kd.C_string (P := Try.prog) (A := A115) (c := (c0 - 2)) Try.underlying25 Try.underlying5 Try.underlying9 (Kd.C_below HR236.out HB.out)
                 have hce_ : (wrap64 (2 + (wrap64 (rd l0 1)))) ≤ (l0.length : Int) := zL (by first | (with_reducible assumption) | assumption)
                 rw [List.length_drop, List.length_take, Nat.min_eq_left (by omega)] at hcv116
                 (try simp only [Int.reduceToNat] at hcv116)
                 clear hce_
                 have hnb117 := NB227_225.out
                 have hnc117 := NB225_227.out
                 have hcz118_0 : wc.cell? ⟨gb227, 0, none⟩ = some (.int .i64 (wrap64 (rd l0 0))) := (zK BK227.out 0).trans rfl
                 have hcz118_1 : wc.cell? ⟨gb227, 1, none⟩ = some (.int .i64 0) := (zK BK227.out 1).trans rfl
                 have hcz118_2 : wc.cell? ⟨gb227, 2, none⟩ = some (.string (⟨#[]⟩ : ByteArray)) := (zK BK227.out 2).trans rfl
                 have hfz118_0 := zF BK227.out 0
                 have hfz118_1 := zF BK227.out 1
                 have hfz118_2 := zF BK227.out 2
                 try go_wp2_with (first | ((with_reducible refine gate_callee (f := 16) rfl ?_); refine goesL_ (some 79) rfl rfl Try.func16 (by kernel_rfl) rfl #[.agg #[.int .i64 (wrap64 (rd l0 0)), .int .i64 0, .string (strOfNums ((l0.take ((wrap64 (2 + (wrap64 (rd l0 1)))) : Int).toNat).drop 2))]] rfl (by (try simp only [List.map_toArray, List.map_cons, List.map_nil]); first | done | rfl | (simp only [List.length_drop, List.length_take]; rfl)) ?_; (with_reducible refine (spec_ValueBytes.calls kj65 (wrap64 (rd l0 0)) 0 (strOfNums ((l0.take ((wrap64 (2 + (wrap64 (rd l0 1)))) : Int).toNat).drop 2)) t237 _ A80.out).mono ?_); rintro e w119 ⟨v238, rfl, ho0, hb⟩; refine ⟨_, rfl, ?_⟩; have n0_ := zM (Kd.R_lower ho0 (zI (by repeat (first | (with_reducible first | exact HB.out | apply zU | apply zV | apply zW | refine zH ?_ GE225.out | refine zH ?_ GE227.out) | exact HB.out)))); have n1_ := zM (zJ (g := gb225) (o := .cells #[.int .i64 0, .int .i64 0, .string (⟨#[]⟩ : ByteArray)] 27 (0, 0)) (by (with_reducible repeat (first | refine zX ?_ _ | refine zY ?_ | refine zZ ?_ _)); refine blk_far ?_ NB225_227.out _; (with_reducible repeat (first | refine zX ?_ _ | refine zY ?_ | refine zZ ?_ _)); exact BK225.out) hb); have n2_ := zM (zJ (g := gb227) (o := .cells #[.int .i64 (wrap64 (rd l0 0)), .int .i64 0, .string (strOfNums ((l0.take ((wrap64 (2 + (wrap64 (rd l0 1)))) : Int).toNat).drop 2))] 27 (0, 0)) (by (with_reducible repeat (first | refine zX ?_ _ | refine zY ?_ | refine zZ ?_ _)); refine blk_put (cs := #[.int .i64 (wrap64 (rd l0 0)), .int .i64 0, .string (⟨#[]⟩ : ByteArray)]) ?_ 2 _ rfl; (with_reducible repeat (first | refine zX ?_ _ | refine zY ?_ | refine zZ ?_ _)); exact BK227.out) hb); have n3_ := zM (zG (by repeat (first | (with_reducible first | exact HB.out | apply zU | apply zV | apply zW | refine zH ?_ GE225.out | refine zH ?_ GE227.out) | exact HB.out)) hb); clear BK225; clear BK227; clear HB; have HO239 := n0_; have BK225 := n1_; have BK227 := n2_; have HB := n3_; clear n0_ n1_ n2_ n3_; (try clear hb); (try clear hb2); (try clear hk); (try clear hi); (try clear ho0)))
                 have n0_ := zM (zT HO239.out)
                 have n1_ := zM (zY BK225.out)
                 have n2_ := zM (zY BK227.out)
                 have n3_ := zM (zW HB.out)
                 clear HO239
                 clear BK225
                 clear BK227
                 clear HB
                 have HO239 := n0_
                 have BK225 := n1_
                 have BK227 := n2_
                 have HB := n3_
                 clear n0_ n1_ n2_ n3_
                 obtain ⟨Ao121, co121, eo121⟩ := Kd.R_slice HO239.out
                 (first | subst eo121 | (injection eo121 with f1_ f2_ f3_; have f4_ := f1_.symm; have f5_ := f3_.symm; clear f1_ f2_ f3_; subst f4_; subst f5_))
                 obtain ⟨i0122, hi0122, _, hsz122, _⟩ := info_parts info5
                 obtain ⟨hcut122, hA122, hC122⟩ := print_take_of (P := Try.prog) (Value.int .u8) 0 25 5 .i64 Try.underlying25 hi0122 hsz122 (some ad226) c0 l0 (t237.length : Int) (zL (by assumption)) (zL (by assumption)) HC0.out
                 have HR240 := zM (Kd.C_of_reads (h1 := fun _ => rfl) (hA122 _ (Kd.reads_of_C HR0.out)))
                 have HC240 := zM hC122
                 clear hA122 hC122 hi0122 hsz122
                 have hcv123 := own_string (P := Try.prog) Try.underlying25 Try.underlying5 Try.underlying9 (Kd.own_of_R HO239.out)
                 have hcv124 := Kd.C_string (P := Try.prog) (A := (some ad226)) (c := c0) Try.underlying25 Try.underlying5 Try.underlying9 (Kd.C_below HR240.out HB.out)
                 rw [List.length_take, show min (Int.toNat (t237.length : Int)) l0.length = min t237.length l0.length from rfl] at hcv124
                 refine start_ (n := 20) (S := fun w' => w' = w119.drew) (ds := []) #[ff, ff, ff, ff, ff, ff, ff, ff, ff, ff, ff, ff, ff, ff, ff, ff, ff, ff, ff, ff] (by kernel_rfl) rfl rfl rfl (fun hHeld => ?_); refine with_tabW spec_ValueFrom.tab11 spec_ValueFrom.bits11 (fun HT_ HW_ => ?_)
                 generalize w119.drew = w120 at HO239 BK225 BK227 HB HR240 hcv123 hcv124 hHeld ⊢
                 refine pure_ (i := 0) (N := some 80) (v := ?_) (a' := ?_) #[tt, ff, ff, ff, ff, ff, ff, ff, ff, ff, ff, ff, ff, ff, ff, ff, ff, ff, ff, ff] rfl rfl (any_of HT_.out (by kernel_rfl)) (fun _ _ _ h => h) (Or.inl ⟨by rfl, ?_⟩) ?_ ?_
                 rotate_left
                 ·
                  intro w'
                  go_simp
                  with_reducible rfl
                 rotate_left
                 ·
                  simp only [Act.put, zA, zB, zC, i64_w, i32_w]
                  rfl
                 refine pure_ (i := 1) (N := some 81) (v := ?_) (a' := ?_) #[tt, tt, ff, ff, ff, ff, ff, ff, ff, ff, ff, ff, ff, ff, ff, ff, ff, ff, ff, ff] rfl rfl (any_of HT_.out (by kernel_rfl)) (fun _ _ _ h => h) (Or.inl ⟨by rfl, ?_⟩) ?_ ?_
                 rotate_left
                 ·
                  intro w'
                  go_simp
                  with_reducible rfl
                 rotate_left
                 ·
                  simp only [Act.put, zA, zB, zC, i64_w, i32_w]
                  rfl
                 refine pure_ (i := 2) (N := some 82) (v := ?_) (a' := ?_) #[tt, tt, tt, ff, ff, ff, ff, ff, ff, ff, ff, ff, ff, ff, ff, ff, ff, ff, ff, ff] rfl rfl (any_of HT_.out (by kernel_rfl)) (fun _ _ _ h => h) (Or.inl ⟨by rfl, ?_⟩) ?_ ?_
                 rotate_left
                 ·
                  intro w'
                  go_simp
                  with_reducible rfl
                 rotate_left
                 ·
                  simp only [Act.put, zA, zB, zC, i64_w, i32_w]
                  rfl
                 refine pure_ (i := 3) (N := some 83) (v := ?_) (a' := ?_) #[tt, tt, tt, tt, ff, ff, ff, ff, ff, ff, ff, ff, ff, ff, ff, ff, ff, ff, ff, ff] rfl rfl (any_of HT_.out (by kernel_rfl)) (fun _ _ _ h => h) (Or.inl ⟨by rfl, ?_⟩) ?_ ?_
                 rotate_left
                 ·
                  intro w'
                  go_simp
                  with_reducible rfl
                 rotate_left
                 ·
                  simp only [Act.put, zA, zB, zC, i64_w, i32_w]
                  rfl
                 refine pure_ (i := 4) (N := some 84) (v := ?_) (a' := ?_) #[tt, tt, tt, tt, tt, ff, ff, ff, ff, ff, ff, ff, ff, ff, ff, ff, ff, ff, ff, ff] rfl rfl (any_of HT_.out (by kernel_rfl)) (fun _ _ _ h => h) (Or.inl ⟨by rfl, ?_⟩) ?_ ?_
                 rotate_left
                 ·
                  intro w'
                  go_simp
                  with_reducible rfl
                 rotate_left
                 ·
                  simp only [Act.put, zA, zB, zC, i64_w, i32_w]
                  rfl
                 refine pure_ (i := 5) (N := some 85) (v := ?_) (a' := ?_) #[tt, tt, tt, tt, tt, tt, ff, ff, ff, ff, ff, ff, ff, ff, ff, ff, ff, ff, ff, ff] rfl rfl (any_of HT_.out (by kernel_rfl)) (fun _ _ _ h => h) (Or.inl ⟨by rfl, ?_⟩) ?_ ?_
                 rotate_left
                 ·
                  intro w'
                  go_simp
                  with_reducible rfl
                 rotate_left
                 ·
                  simp only [Act.put, zA, zB, zC, i64_w, i32_w]
                  rfl
                 refine pure_ (i := 6) (N := some 86) (v := ?_) (a' := ?_) #[tt, tt, tt, tt, tt, tt, tt, ff, ff, ff, ff, ff, ff, ff, ff, ff, ff, ff, ff, ff] rfl rfl (any_of HT_.out (by kernel_rfl)) (fun _ _ _ h => h) (Or.inl ⟨by rfl, ?_⟩) ?_ ?_
                 rotate_left
                 ·
                  intro w'
                  go_simp
                  with_reducible rfl
                 rotate_left
                 ·
                  simp only [Act.put, zA, zB, zC, i64_w, i32_w]
                  rfl
                 refine pure_ (i := 7) (N := some 87) (v := ?_) (a' := ?_) #[tt, tt, tt, tt, tt, tt, tt, tt, ff, ff, ff, ff, ff, ff, ff, ff, ff, ff, ff, ff] rfl rfl (any_of HT_.out (by kernel_rfl)) (fun _ _ _ h => h) (Or.inl ⟨by rfl, ?_⟩) ?_ ?_
                 rotate_left
                 ·
                  intro w'
                  go_simp
                  with_reducible rfl
                 rotate_left
                 ·
                  simp only [Act.put, zA, zB, zC, i64_w, i32_w]
                  rfl
                 refine pure_ (i := 8) (N := some 88) (v := ?_) (a' := ?_) #[tt, tt, tt, tt, tt, tt, tt, tt, tt, ff, ff, ff, ff, ff, ff, ff, ff, ff, ff, ff] rfl rfl (any_of HT_.out (by kernel_rfl)) (fun _ _ _ h => h) (Or.inl ⟨by rfl, ?_⟩) ?_ ?_
                 rotate_left
                 ·
                  intro w'
                  go_simp
                  with_reducible rfl
                 rotate_left
                 ·
                  simp only [Act.put, zA, zB, zC, i64_w, i32_w]
                  rfl
                 refine pure_ (i := 9) (N := some 89) (v := ?_) (a' := ?_) #[tt, tt, tt, tt, tt, tt, tt, tt, tt, tt, ff, ff, ff, ff, ff, ff, ff, ff, ff, ff] rfl rfl (any_of HT_.out (by kernel_rfl)) (fun _ _ _ h => h) (Or.inl ⟨by rfl, ?_⟩) ?_ ?_
                 rotate_left
                 ·
                  intro w'
                  go_simp
                  with_reducible rfl
                 rotate_left
                 ·
                  simp only [Act.put, zA, zB, zC, i64_w, i32_w]
                  rfl
                 refine pure_ (i := 10) (N := some 90) (v := ?_) (a' := ?_) #[tt, tt, tt, tt, tt, tt, tt, tt, tt, tt, tt, ff, ff, ff, ff, ff, ff, ff, ff, ff] rfl rfl (any_of HT_.out (by kernel_rfl)) (fun _ _ _ h => h) (Or.inl ⟨by rfl, ?_⟩) ?_ ?_
                 rotate_left
                 ·
                  intro w'
                  go_simp
                  with_reducible rfl
                 rotate_left
                 ·
                  simp only [Act.put, zA, zB, zC, i64_w, i32_w]
                  rfl
                 refine pure_ (i := 11) (N := some 91) (v := ?_) (a' := ?_) #[tt, tt, tt, tt, tt, tt, tt, tt, tt, tt, tt, tt, ff, ff, ff, ff, ff, ff, ff, ff] rfl rfl (any_of HT_.out (by kernel_rfl)) (fun _ _ _ h => h) (Or.inl ⟨by rfl, ?_⟩) ?_ ?_
                 rotate_left
                 ·
                  intro w'
                  go_simp
                  with_reducible rfl
                 rotate_left
                 ·
                  simp only [Act.put, zA, zB, zC, i64_w, i32_w]
                  rfl
                 refine take_ (i := 12) (N := some 92) (v := ?_) (a' := ?_) #[tt, tt, tt, tt, tt, tt, tt, tt, tt, tt, tt, tt, tt, ff, ff, ff, ff, ff, ff, ff] rfl rfl (take_ofW HT_.out HW_.out (by kernel_rfl)) (fun _ _ _ h => h) (Or.inl ⟨by rfl, ?_⟩) hHeld ?_ ?_
                 rotate_left
                 ·
                  rintro w' rfl
                  go_simp
                  with_reducible rfl
                 rotate_left
                 ·
                  simp only [Act.put, zA, zB, zC, i64_w, i32_w]
                  rfl
                 refine pure_ (i := 13) (N := some 93) (v := ?_) (a' := ?_) #[tt, tt, tt, tt, tt, tt, tt, tt, tt, tt, tt, tt, tt, tt, ff, ff, ff, ff, ff, ff] rfl rfl (any_of HT_.out (by kernel_rfl)) (fun _ _ _ h => h) (Or.inl ⟨by rfl, ?_⟩) ?_ ?_
                 rotate_left
                 ·
                  intro w'
                  go_simp
                  with_reducible rfl
                 rotate_left
                 ·
                  simp only [Act.put, zA, zB, zC, i64_w, i32_w]
                  rfl
                 refine pure_ (i := 14) (N := some 94) (v := ?_) (a' := ?_) #[tt, tt, tt, tt, tt, tt, tt, tt, tt, tt, tt, tt, tt, tt, tt, ff, ff, ff, ff, ff] rfl rfl (any_of HT_.out (by kernel_rfl)) (fun _ _ _ h => h) (Or.inl ⟨by rfl, ?_⟩) ?_ ?_
                 rotate_left
                 ·
                  intro w'
                  go_simp
                  with_reducible rfl
                 rotate_left
                 ·
                  simp only [Act.put, zA, zB, zC, i64_w, i32_w]
                  rfl
                 refine pure_ (i := 15) (N := some 95) (v := ?_) (a' := ?_) #[tt, tt, tt, tt, tt, tt, tt, tt, tt, tt, tt, tt, tt, tt, tt, tt, ff, ff, ff, ff] rfl rfl (any_of HT_.out (by kernel_rfl)) (fun _ _ _ h => h) (Or.inl ⟨by rfl, ?_⟩) ?_ ?_
                 rotate_left
                 ·
                  intro w'
                  go_simp
                  with_reducible rfl
                 rotate_left
                 ·
                  simp only [Act.put, zA, zB, zC, i64_w, i32_w]
                  rfl
                 refine pure_ (i := 16) (N := some 96) (v := ?_) (a' := ?_) #[tt, tt, tt, tt, tt, tt, tt, tt, tt, tt, tt, tt, tt, tt, tt, tt, tt, ff, ff, ff] rfl rfl (any_of HT_.out (by kernel_rfl)) (fun _ _ _ h => h) (Or.inl ⟨by rfl, ?_⟩) ?_ ?_
                 rotate_left
                 ·
                  intro w'
                  go_simp
                  with_reducible rfl
                 rotate_left
                 ·
                  simp only [Act.put, zA, zB, zC, i64_w, i32_w]
                  rfl
                 refine take_ (i := 17) (N := some 97) (v := ?_) (a' := ?_) #[tt, tt, tt, tt, tt, tt, tt, tt, tt, tt, tt, tt, tt, tt, tt, tt, tt, tt, ff, ff] rfl rfl (take_ofW HT_.out HW_.out (by kernel_rfl)) (fun _ _ _ h => h) (Or.inl ⟨by rfl, ?_⟩) hHeld ?_ ?_
                 rotate_left
                 ·
                  rintro w' rfl
                  go_simp
                  with_reducible rfl
                 rotate_left
                 ·
                  simp only [Act.put, zA, zB, zC, i64_w, i32_w]
                  rfl
                 refine take_ (i := 18) (N := some 98) (v := ?_) (a' := ?_) #[tt, tt, tt, tt, tt, tt, tt, tt, tt, tt, tt, tt, tt, tt, tt, tt, tt, tt, tt, ff] rfl rfl (take_ofW HT_.out HW_.out (by kernel_rfl)) (fun _ _ _ h => h) (Or.inl ⟨by rfl, ?_⟩) hHeld ?_ ?_
                 rotate_left
                 ·
                  rintro w' rfl
                  go_simp
                  with_reducible rfl
                 rotate_left
                 ·
                  simp only [Act.put, zA, zB, zC, i64_w, i32_w]
                  rfl
                 refine pure_ (i := 19) (N := some 99) (v := ?_) (a' := ?_) #[tt, tt, tt, tt, tt, tt, tt, tt, tt, tt, tt, tt, tt, tt, tt, tt, tt, tt, tt, tt] rfl rfl (any_of HT_.out (by kernel_rfl)) (fun _ _ _ h => h) (Or.inl ⟨by rfl, ?_⟩) ?_ ?_
                 rotate_left
                 ·
                  intro w'
                  go_simp
                  with_reducible rfl
                 rotate_left
                 ·
                  simp only [Act.put, zA, zB, zC, i64_w, i32_w]
                  rfl
                 refine done_ (done_of HT_.out (by kernel_rfl)) ?_
                 have hcz126_0 : w120.cell? ⟨gb225, 0, none⟩ = some (.int .i64 0) := (zK BK225.out 0).trans rfl
                 have hcz126_1 : w120.cell? ⟨gb225, 1, none⟩ = some (.int .i64 0) := (zK BK225.out 1).trans rfl
                 have hcz126_2 : w120.cell? ⟨gb225, 2, none⟩ = some (.string (⟨#[]⟩ : ByteArray)) := (zK BK225.out 2).trans rfl
                 have hfz126_0 := zF BK225.out 0
                 have hfz126_1 := zF BK225.out 1
                 have hfz126_2 := zF BK225.out 2
                 try go_wp2
                 refine bodyPost_ret (results_ct rfl _ _ gb225 27 #[.int .i64 0, .int .i64 0, .string (⟨#[]⟩ : ByteArray)] (0, 0) _ rfl (by (with_reducible repeat (first | refine zX ?_ _ | refine zY ?_ | refine zZ ?_ _)); refine blk_put (cs := #[.int .i64 0, .int .i64 0, .string (⟨#[]⟩ : ByteArray)]) ?_ 2 _ rfl; (with_reducible repeat (first | refine zX ?_ _ | refine zY ?_ | refine zZ ?_ _)); refine blk_put (cs := #[.int .i64 0, .int .i64 0, .string (⟨#[]⟩ : ByteArray)]) ?_ 1 _ rfl; (with_reducible repeat (first | refine zX ?_ _ | refine zY ?_ | refine zZ ?_ _)); refine blk_put (cs := #[.int .i64 0, .int .i64 0, .string (⟨#[]⟩ : ByteArray)]) ?_ 0 _ rfl; (with_reducible repeat (first | refine zX ?_ _ | refine zY ?_ | refine zZ ?_ _)); exact BK225.out) Try.underlying27 rfl (by kernel_rfl)) rfl ?_
                 exact ⟨by first | rfl | (simp [errW_none, errW_some] <;> rfl) | (simp [*, errW_none, errW_some] <;> rfl), by repeat (first | (with_reducible first | exact HB.out | apply zU | apply zV | apply zW | refine zH ?_ GE225.out | refine zH ?_ GE227.out) | exact HB.out)⟩
               ·
                rw [if_neg c100] at H
                exact absurd H (by simp)
              ·
               rw [if_neg c99] at H
               exact absurd H (by simp)
           ·
            rw [if_neg c79] at H
            exact absurd H (by simp)
          ·
           rw [if_neg c78] at H
           exact absurd H (by simp)
         ·
          rw [if_neg c77] at H
          exact absurd H (by simp)
        ·
         replace c76 := Bool.eq_false_iff.mpr c76
         subst c76
         have H1 : (if (wrap64 (rd l0 0)) = 3 then (spec_ValueFrom.j2 kj65 l0 (decide ((l0.length : Int) > 1)) (wrap64 (rd l0 0)) 0 (⟨#[]⟩ : ByteArray)) else (spec_ValueFrom.j2 kj65 l0 false (wrap64 (rd l0 0)) 0 (⟨#[]⟩ : ByteArray))) = some (r1, r2, r3, r4) := by rw [if_neg (show ¬ (false = true) by decide)] at H; exact H
         clear H
         have H := H1
         clear H1
         have HC127 := zM H
         clear H
         go_upto_region 8 with (fail)
         go_cut [64] (fun v64 wc => ∃ (kq : Nat) (x64_126 : Bool), v64 = .bool x64_126 ∧ Aside0 (spec_ValueFrom.j2 kq l0 x64_126 (wrap64 (rd l0 0)) 0 (⟨#[]⟩ : ByteArray) = some (r1, r2, r3, r4)) ∧ Aside0 (kq ≤ kj65) ∧ Aside0 (wc.heap[gb225]? = some (.cells #[.int .i64 0, .int .i64 0, .string (⟨#[]⟩ : ByteArray)] 27 (0, 0))) ∧ Aside0 (wc.heap[gb227]? = some (.cells #[.int .i64 (wrap64 (rd l0 0)), .int .i64 0, .string (⟨#[]⟩ : ByteArray)] 27 (0, 0))) ∧ Aside0 (Below w.heap.size w wc))
         case first =>
          have H := HC127.out
          clear HC127
          by_cases c128 : (wrap64 (rd l0 0)) = 3
          ·
           rw [if_pos c128] at H
           have c128b0 : ((wrap64 (rd l0 0)) == 3) = true := beq_iff_eq.mpr c128
           have c128b1 : ((wrap64 (rd l0 0)) != 3) = false := bne_eq_false_iff_eq.mpr c128
           clear c128
           (first | rw [c128b0] | (simp only [i64_w, i32_w]; rw [c128b0]) | skip)
           have H' := zM H
           clear H
           have hnb129 := NB227_225.out
           have hnc129 := NB225_227.out
           have hcz130_0 : wc.cell? ⟨gb227, 0, none⟩ = some (.int .i64 (wrap64 (rd l0 0))) := (zK BK227.out 0).trans rfl
           have hcz130_1 : wc.cell? ⟨gb227, 1, none⟩ = some (.int .i64 0) := (zK BK227.out 1).trans rfl
           have hcz130_2 : wc.cell? ⟨gb227, 2, none⟩ = some (.string (⟨#[]⟩ : ByteArray)) := (zK BK227.out 2).trans rfl
           have hfz130_0 := zF BK227.out 0
           have hfz130_1 := zF BK227.out 1
           have hfz130_2 := zF BK227.out 2
           go_wp2
           go_meet
           case rel => exact ⟨_, (decide ((l0.length : Int) > 1)), (by first | rfl | (simp; done) | (simp [*]; done)), H', ⟨by have := HJ5.out; have := HJ65.out; first | omega | exact Nat.le_refl _⟩, ⟨by (with_reducible repeat (first | refine zX ?_ _ | refine zY ?_ | refine zZ ?_ _)); exact BK225.out⟩, ⟨by (with_reducible repeat (first | refine zX ?_ _ | refine zY ?_ | refine zZ ?_ _)); exact BK227.out⟩, ⟨by repeat (first | (with_reducible first | exact HB.out | apply zU | apply zV | apply zW | refine zH ?_ GE225.out | refine zH ?_ GE227.out) | exact HB.out)⟩⟩
          ·
           rw [if_neg c128] at H
           have c128b0 : ((wrap64 (rd l0 0)) == 3) = false := beq_eq_false_iff_ne.mpr c128
           have c128b1 : ((wrap64 (rd l0 0)) != 3) = true := bne_iff_ne.mpr c128
           (first | rw [c128b0] | (simp only [i64_w, i32_w]; rw [c128b0]) | skip)
           have H' := zM H
           clear H
           have hnb131 := NB227_225.out
           have hnc131 := NB225_227.out
           have hcz132_0 : wc.cell? ⟨gb227, 0, none⟩ = some (.int .i64 (wrap64 (rd l0 0))) := (zK BK227.out 0).trans rfl
           have hcz132_1 : wc.cell? ⟨gb227, 1, none⟩ = some (.int .i64 0) := (zK BK227.out 1).trans rfl
           have hcz132_2 : wc.cell? ⟨gb227, 2, none⟩ = some (.string (⟨#[]⟩ : ByteArray)) := (zK BK227.out 2).trans rfl
           have hfz132_0 := zF BK227.out 0
           have hfz132_1 := zF BK227.out 1
           have hfz132_2 := zF BK227.out 2
           go_wp2
           go_meet
           case rel => exact ⟨_, (false), (by first | rfl | (simp; done) | (simp [*]; done)), H', ⟨by have := HJ5.out; have := HJ65.out; first | omega | exact Nat.le_refl _⟩, ⟨by (with_reducible repeat (first | refine zX ?_ _ | refine zY ?_ | refine zZ ?_ _)); exact BK225.out⟩, ⟨by (with_reducible repeat (first | refine zX ?_ _ | refine zY ?_ | refine zZ ?_ _)); exact BK227.out⟩, ⟨by repeat (first | (with_reducible first | exact HB.out | apply zU | apply zV | apply zW | refine zH ?_ GE225.out | refine zH ?_ GE227.out) | exact HB.out)⟩⟩
         case rest =>
          clear HC127
          try clear c1
          try clear hcv1
          try clear p2
          try clear q2
          try clear hx2
          try clear qi2
          try clear p6
          try clear c7
          try clear c9
          try clear c10
          try clear hcv10
          try clear c11
          try clear hcv11
          try clear c12
          try clear hcv12
          try clear c13
          try clear c16
          try clear p23
          try clear q23
          try clear hx23
          try clear qi23
          try clear p64
          try clear c76
          try clear c77
          try clear c78
          try clear c79
          try clear c90
          try clear c90b0
          try clear c90b1
          try clear c99
          try clear c99b0
          try clear c99b1
          try clear c100
          try clear c100b0
          try clear c100b1
          try clear c101
          try clear c101b0
          try clear c101b1
          try clear hcv103
          try clear c104
          try clear hcv110
          try clear hcv111
          try clear hcv116
          try clear c117
          try clear hcv123
          try clear hcv124
          try clear c128
          try clear c128b0
          try clear c128b1
          try clear c129
          try clear c131
          try clear hcz105_0
          try clear hcz105_1
          try clear hcz105_2
          try clear hcz113_0
          try clear hcz113_1
          try clear hcz113_2
          try clear hcz114_0
          try clear hcz114_1
          try clear hcz114_2
          try clear hcz118_0
          try clear hcz118_1
          try clear hcz118_2
          try clear hcz126_0
          try clear hcz126_1
          try clear hcz126_2
          try clear hcz130_0
          try clear hcz130_1
          try clear hcz130_2
          try clear hcz132_0
          try clear hcz132_1
          try clear hcz132_2
          try clear hcz98_0
          try clear hcz98_1
          try clear hcz98_2
          try clear hfz105_0
          try clear hfz105_1
          try clear hfz105_2
          try clear hfz113_0
          try clear hfz113_1
          try clear hfz113_2
          try clear hfz114_0
          try clear hfz114_1
          try clear hfz114_2
          try clear hfz118_0
          try clear hfz118_1
          try clear hfz118_2
          try clear hfz126_0
          try clear hfz126_1
          try clear hfz126_2
          try clear hfz130_0
          try clear hfz130_1
          try clear hfz130_2
          try clear hfz132_0
          try clear hfz132_1
          try clear hfz132_2
          try clear hfz98_0
          try clear hfz98_1
          try clear hfz98_2
          try clear hx235_0
          try clear p235
          try clear q235
          obtain ⟨kq, x64_126, rfl, HA, HJ126, BK225, BK227, HB⟩ := hcut
          cases kq with
          | zero => exact absurd HA.out (by simp [spec_ValueFrom.j2])
          | succ kj126 =>
           have H := HA.out
           clear HA
           simp only [spec_ValueFrom.j2] at H
           by_cases c133 : x64_126 = true
           ·
            subst c133
            have H1 : (if 1 < (l0.length : Int) then ((spec_ValueBytes.f kj126 (wrap64 (rd l0 0)) (wrap64 (rd l0 1)) (⟨#[]⟩ : ByteArray)).bind fun t242 => (if (t242.length : Int) = 0 then (some (0, 0, (⟨#[]⟩ : ByteArray), 0)) else (if (t242.length : Int) > (l0.length : Int) then (some (0, 0, (⟨#[]⟩ : ByteArray), 0)) else (if 0 ≤ (t242.length : Int) then (if (t242.length : Int) ≤ (l0.length : Int) then (if (strOfNums t242).toList = (strOfNums (l0.take ((t242.length : Int) : Int).toNat)).toList then (some ((wrap64 (rd l0 0)), wrap64 (rd l0 1), (⟨#[]⟩ : ByteArray), (t242.length : Int))) else (some (0, 0, (⟨#[]⟩ : ByteArray), 0))) else (none)) else (none))))) else (none)) = some (r1, r2, r3, r4) := by rw [if_pos rfl] at H; exact H
            clear H
            have H := H1
            clear H1
            by_cases c134 : 1 < (l0.length : Int)
            ·
             rw [if_pos c134] at H
             have c134b0 : decide (1 < (l0.length : Int)) = true := decide_eq_true c134
             have c134b1 : decide (1 < l0.length) = true := decide_eq_true (by omega)
             clear c134
             replace H := Option.bind_eq_some_iff.mp H
             obtain ⟨t242, A1350, H⟩ := H
             replace H : (if (t242.length : Int) = 0 then (some (0, 0, (⟨#[]⟩ : ByteArray), 0)) else (if (t242.length : Int) > (l0.length : Int) then (some (0, 0, (⟨#[]⟩ : ByteArray), 0)) else (if 0 ≤ (t242.length : Int) then (if (t242.length : Int) ≤ (l0.length : Int) then (if (strOfNums t242).toList = (strOfNums (l0.take ((t242.length : Int) : Int).toNat)).toList then (some ((wrap64 (rd l0 0)), wrap64 (rd l0 1), (⟨#[]⟩ : ByteArray), (t242.length : Int))) else (some (0, 0, (⟨#[]⟩ : ByteArray), 0))) else (none)) else (none)))) = some (r1, r2, r3, r4) := H
             have A135 := zM A1350
             clear A1350
             by_cases c136 : (t242.length : Int) = 0
             ·
              rw [if_pos c136] at H
              have c136b0 : ((t242.length : Int) == 0) = true := beq_iff_eq.mpr c136
              have c136b1 : ((t242.length : Int) != 0) = false := bne_eq_false_iff_eq.mpr c136
              clear c136
              simp only [Option.some.injEq, Prod.mk.injEq] at H
              obtain ⟨rfl, rfl, rfl, rfl⟩ := H
              have p241 : 0 ≤ (1 : Int) := (by omega)
              have q241 : 1 < (l0.length : Int) := zL (by assumption)
              obtain ⟨ad241, e241, hx241_0⟩ := Kd.at_int HR0.out 1 p241 q241
              obtain rfl : ad226 = ad241 := (by injection e241)
              (try simp only [show (1 : Int).toNat = 1 from rfl, Nat.reduceMul, Nat.reduceEqDiff, Go.Addr.add, ↓reduceIte] at hx241_0)
              have qi241 : (1 < l0.length) = True := eq_true (by omega)
              (try rw [show ((1 : Int)).toNat = 1 from rfl] at hx241_0)
              replace hx241_0 := (HB.out.cell (World.block_lt_of_cell? w _ hx241_0)).trans hx241_0
              replace p241 := eq_true p241
              replace q241 := eq_true q241
              have hnb137 := NB227_225.out
              have hnc137 := NB225_227.out
              have hcz138_0 : wc.cell? ⟨gb227, 0, none⟩ = some (.int .i64 (wrap64 (rd l0 0))) := (zK BK227.out 0).trans rfl
              have hcz138_1 : wc.cell? ⟨gb227, 1, none⟩ = some (.int .i64 0) := (zK BK227.out 1).trans rfl
              have hcz138_2 : wc.cell? ⟨gb227, 2, none⟩ = some (.string (⟨#[]⟩ : ByteArray)) := (zK BK227.out 2).trans rfl
              have hfz138_0 := zF BK227.out 0
              have hfz138_1 := zF BK227.out 1
              have hfz138_2 := zF BK227.out 2
              try go_wp2_with (first | ((with_reducible refine gate_callee (f := 16) rfl ?_); refine goesL_ (some 79) rfl rfl Try.func16 (by kernel_rfl) rfl #[.agg #[.int .i64 (wrap64 (rd l0 0)), .int .i64 (wrap64 (rd l0 1)), .string (⟨#[]⟩ : ByteArray)]] rfl (by (try simp only [List.map_toArray, List.map_cons, List.map_nil]); first | done | rfl | (simp only [List.length_drop, List.length_take]; rfl)) ?_; (with_reducible refine (spec_ValueBytes.calls kj126 (wrap64 (rd l0 0)) (wrap64 (rd l0 1)) (⟨#[]⟩ : ByteArray) t242 _ A135.out).mono ?_); rintro e w139 ⟨v243, rfl, ho0, hb⟩; refine ⟨_, rfl, ?_⟩; have n0_ := zM (Kd.R_lower ho0 (zI (by repeat (first | (with_reducible first | exact HB.out | apply zU | apply zV | apply zW | refine zH ?_ GE225.out | refine zH ?_ GE227.out) | exact HB.out)))); have n1_ := zM (zJ (g := gb225) (o := .cells #[.int .i64 0, .int .i64 0, .string (⟨#[]⟩ : ByteArray)] 27 (0, 0)) (by (with_reducible repeat (first | refine zX ?_ _ | refine zY ?_ | refine zZ ?_ _)); refine blk_far ?_ NB225_227.out _; (with_reducible repeat (first | refine zX ?_ _ | refine zY ?_ | refine zZ ?_ _)); exact BK225.out) hb); have n2_ := zM (zJ (g := gb227) (o := .cells #[.int .i64 (wrap64 (rd l0 0)), .int .i64 (wrap64 (rd l0 1)), .string (⟨#[]⟩ : ByteArray)] 27 (0, 0)) (by (with_reducible repeat (first | refine zX ?_ _ | refine zY ?_ | refine zZ ?_ _)); refine blk_put (cs := #[.int .i64 (wrap64 (rd l0 0)), .int .i64 0, .string (⟨#[]⟩ : ByteArray)]) ?_ 1 _ rfl; (with_reducible repeat (first | refine zX ?_ _ | refine zY ?_ | refine zZ ?_ _)); exact BK227.out) hb); have n3_ := zM (zG (by repeat (first | (with_reducible first | exact HB.out | apply zU | apply zV | apply zW | refine zH ?_ GE225.out | refine zH ?_ GE227.out) | exact HB.out)) hb); clear BK225; clear BK227; clear HB; have HO244 := n0_; have BK225 := n1_; have BK227 := n2_; have HB := n3_; clear n0_ n1_ n2_ n3_; (try clear hb); (try clear hb2); (try clear hk); (try clear hi); (try clear ho0)))
              have n0_ := zM (zT HO244.out)
              have n1_ := zM (zY BK225.out)
              have n2_ := zM (zY BK227.out)
              have n3_ := zM (zW HB.out)
              clear HO244
              clear BK225
              clear BK227
              clear HB
              have HO244 := n0_
              have BK225 := n1_
              have BK227 := n2_
              have HB := n3_
              clear n0_ n1_ n2_ n3_
              obtain ⟨Ao141, co141, eo141⟩ := Kd.R_slice HO244.out
              (first | subst eo141 | (injection eo141 with f1_ f2_ f3_; have f4_ := f1_.symm; have f5_ := f3_.symm; clear f1_ f2_ f3_; subst f4_; subst f5_))
              refine start_ (n := 20) (S := fun w' => True) (ds := []) #[ff, ff, ff, ff, ff, ff, ff, ff, ff, ff, ff, ff, ff, ff, ff, ff, ff, ff, ff, ff] (by kernel_rfl) rfl rfl trivial (fun hHeld => ?_); refine with_tabW spec_ValueFrom.tab11 spec_ValueFrom.bits11 (fun HT_ HW_ => ?_)
              generalize w139.drew = w140 at HO244 BK225 BK227 HB hHeld ⊢
              refine pure_ (i := 0) (N := some 80) (v := ?_) (a' := ?_) #[tt, ff, ff, ff, ff, ff, ff, ff, ff, ff, ff, ff, ff, ff, ff, ff, ff, ff, ff, ff] rfl rfl (any_of HT_.out (by kernel_rfl)) (fun _ _ _ h => h) (Or.inl ⟨by rfl, ?_⟩) ?_ ?_
              rotate_left
              ·
               intro w'
               go_simp
               with_reducible rfl
              rotate_left
              ·
               simp only [Act.put, zA, zB, zC, i64_w, i32_w]
               rfl
              refine pure_ (i := 1) (N := some 81) (v := ?_) (a' := ?_) #[tt, tt, ff, ff, ff, ff, ff, ff, ff, ff, ff, ff, ff, ff, ff, ff, ff, ff, ff, ff] rfl rfl (any_of HT_.out (by kernel_rfl)) (fun _ _ _ h => h) (Or.inl ⟨by rfl, ?_⟩) ?_ ?_
              rotate_left
              ·
               intro w'
               go_simp
               with_reducible rfl
              rotate_left
              ·
               simp only [Act.put, zA, zB, zC, i64_w, i32_w]
               rfl
              refine pure_ (i := 2) (N := some 82) (v := ?_) (a' := ?_) #[tt, tt, tt, ff, ff, ff, ff, ff, ff, ff, ff, ff, ff, ff, ff, ff, ff, ff, ff, ff] rfl rfl (any_of HT_.out (by kernel_rfl)) (fun _ _ _ h => h) (Or.inl ⟨by rfl, ?_⟩) ?_ ?_
              rotate_left
              ·
               intro w'
               go_simp
               with_reducible rfl
              rotate_left
              ·
               simp only [Act.put, zA, zB, zC, i64_w, i32_w]
               rfl
              refine pure_ (i := 3) (N := some 83) (v := ?_) (a' := ?_) #[tt, tt, tt, tt, ff, ff, ff, ff, ff, ff, ff, ff, ff, ff, ff, ff, ff, ff, ff, ff] rfl rfl (any_of HT_.out (by kernel_rfl)) (fun _ _ _ h => h) (Or.inl ⟨by rfl, ?_⟩) ?_ ?_
              rotate_left
              ·
               intro w'
               go_simp
               with_reducible rfl
              rotate_left
              ·
               simp only [Act.put, zA, zB, zC, i64_w, i32_w]
               rfl
              refine pure_ (i := 4) (N := some 84) (v := undef) (a' := ?_) #[tt, tt, tt, tt, tt, ff, ff, ff, ff, ff, ff, ff, ff, ff, ff, ff, ff, ff, ff, ff] rfl rfl (any_of HT_.out (by kernel_rfl)) (fun _ _ _ h => h) (Or.inr ⟨by rfl, rfl⟩) ?_ ?_
              rotate_left
              ·
               simp only [Act.put, zA, zB, zC, i64_w, i32_w]
               rfl
              refine pure_ (i := 5) (N := some 85) (v := undef) (a' := ?_) #[tt, tt, tt, tt, tt, tt, ff, ff, ff, ff, ff, ff, ff, ff, ff, ff, ff, ff, ff, ff] rfl rfl (any_of HT_.out (by kernel_rfl)) (fun _ _ _ h => h) (Or.inr ⟨by rfl, rfl⟩) ?_ ?_
              rotate_left
              ·
               simp only [Act.put, zA, zB, zC, i64_w, i32_w]
               rfl
              refine pure_ (i := 6) (N := some 86) (v := undef) (a' := ?_) #[tt, tt, tt, tt, tt, tt, tt, ff, ff, ff, ff, ff, ff, ff, ff, ff, ff, ff, ff, ff] rfl rfl (any_of HT_.out (by kernel_rfl)) (fun _ _ _ h => h) (Or.inr ⟨by rfl, rfl⟩) ?_ ?_
              rotate_left
              ·
               simp only [Act.put, zA, zB, zC, i64_w, i32_w]
               rfl
              refine pure_ (i := 7) (N := some 87) (v := undef) (a' := ?_) #[tt, tt, tt, tt, tt, tt, tt, tt, ff, ff, ff, ff, ff, ff, ff, ff, ff, ff, ff, ff] rfl rfl (any_of HT_.out (by kernel_rfl)) (fun _ _ _ h => h) (Or.inr ⟨by rfl, rfl⟩) ?_ ?_
              rotate_left
              ·
               simp only [Act.put, zA, zB, zC, i64_w, i32_w]
               rfl
              refine pure_ (i := 8) (N := some 88) (v := undef) (a' := ?_) #[tt, tt, tt, tt, tt, tt, tt, tt, tt, ff, ff, ff, ff, ff, ff, ff, ff, ff, ff, ff] rfl rfl (any_of HT_.out (by kernel_rfl)) (fun _ _ _ h => h) (Or.inr ⟨by rfl, rfl⟩) ?_ ?_
              rotate_left
              ·
               simp only [Act.put, zA, zB, zC, i64_w, i32_w]
               rfl
              refine pure_ (i := 9) (N := some 89) (v := ?_) (a' := ?_) #[tt, tt, tt, tt, tt, tt, tt, tt, tt, tt, ff, ff, ff, ff, ff, ff, ff, ff, ff, ff] rfl rfl (any_of HT_.out (by kernel_rfl)) (fun _ _ _ h => h) (Or.inl ⟨by rfl, ?_⟩) ?_ ?_
              rotate_left
              ·
               intro w'
               go_simp
               with_reducible rfl
              rotate_left
              ·
               simp only [Act.put, zA, zB, zC, i64_w, i32_w]
               rfl
              refine pure_ (i := 10) (N := some 90) (v := ?_) (a' := ?_) #[tt, tt, tt, tt, tt, tt, tt, tt, tt, tt, tt, ff, ff, ff, ff, ff, ff, ff, ff, ff] rfl rfl (any_of HT_.out (by kernel_rfl)) (fun _ _ _ h => h) (Or.inl ⟨by rfl, ?_⟩) ?_ ?_
              rotate_left
              ·
               intro w'
               go_simp
               with_reducible rfl
              rotate_left
              ·
               simp only [Act.put, zA, zB, zC, i64_w, i32_w]
               rfl
              refine pure_ (i := 11) (N := some 91) (v := undef) (a' := ?_) #[tt, tt, tt, tt, tt, tt, tt, tt, tt, tt, tt, tt, ff, ff, ff, ff, ff, ff, ff, ff] rfl rfl (any_of HT_.out (by kernel_rfl)) (fun _ _ _ h => h) (Or.inr ⟨by rfl, rfl⟩) ?_ ?_
              rotate_left
              ·
               simp only [Act.put, zA, zB, zC, i64_w, i32_w]
               rfl
              refine pure_ (i := 12) (N := some 92) (v := undef) (a' := ?_) #[tt, tt, tt, tt, tt, tt, tt, tt, tt, tt, tt, tt, tt, ff, ff, ff, ff, ff, ff, ff] rfl rfl (any_of HT_.out (by kernel_rfl)) (fun _ _ _ h => h) (Or.inr ⟨by rfl, rfl⟩) ?_ ?_
              rotate_left
              ·
               simp only [Act.put, zA, zB, zC, i64_w, i32_w]
               rfl
              refine pure_ (i := 13) (N := some 93) (v := undef) (a' := ?_) #[tt, tt, tt, tt, tt, tt, tt, tt, tt, tt, tt, tt, tt, tt, ff, ff, ff, ff, ff, ff] rfl rfl (any_of HT_.out (by kernel_rfl)) (fun _ _ _ h => h) (Or.inr ⟨by rfl, rfl⟩) ?_ ?_
              rotate_left
              ·
               simp only [Act.put, zA, zB, zC, i64_w, i32_w]
               rfl
              refine pure_ (i := 14) (N := some 94) (v := undef) (a' := ?_) #[tt, tt, tt, tt, tt, tt, tt, tt, tt, tt, tt, tt, tt, tt, tt, ff, ff, ff, ff, ff] rfl rfl (any_of HT_.out (by kernel_rfl)) (fun _ _ _ h => h) (Or.inr ⟨by rfl, rfl⟩) ?_ ?_
              rotate_left
              ·
               simp only [Act.put, zA, zB, zC, i64_w, i32_w]
               rfl
              refine pure_ (i := 15) (N := some 95) (v := undef) (a' := ?_) #[tt, tt, tt, tt, tt, tt, tt, tt, tt, tt, tt, tt, tt, tt, tt, tt, ff, ff, ff, ff] rfl rfl (any_of HT_.out (by kernel_rfl)) (fun _ _ _ h => h) (Or.inr ⟨by rfl, rfl⟩) ?_ ?_
              rotate_left
              ·
               simp only [Act.put, zA, zB, zC, i64_w, i32_w]
               rfl
              refine pure_ (i := 16) (N := some 96) (v := undef) (a' := ?_) #[tt, tt, tt, tt, tt, tt, tt, tt, tt, tt, tt, tt, tt, tt, tt, tt, tt, ff, ff, ff] rfl rfl (any_of HT_.out (by kernel_rfl)) (fun _ _ _ h => h) (Or.inr ⟨by rfl, rfl⟩) ?_ ?_
              rotate_left
              ·
               simp only [Act.put, zA, zB, zC, i64_w, i32_w]
               rfl
              refine pure_ (i := 17) (N := some 97) (v := undef) (a' := ?_) #[tt, tt, tt, tt, tt, tt, tt, tt, tt, tt, tt, tt, tt, tt, tt, tt, tt, tt, ff, ff] rfl rfl (any_of HT_.out (by kernel_rfl)) (fun _ _ _ h => h) (Or.inr ⟨by rfl, rfl⟩) ?_ ?_
              rotate_left
              ·
               simp only [Act.put, zA, zB, zC, i64_w, i32_w]
               rfl
              refine pure_ (i := 18) (N := some 98) (v := undef) (a' := ?_) #[tt, tt, tt, tt, tt, tt, tt, tt, tt, tt, tt, tt, tt, tt, tt, tt, tt, tt, tt, ff] rfl rfl (any_of HT_.out (by kernel_rfl)) (fun _ _ _ h => h) (Or.inr ⟨by rfl, rfl⟩) ?_ ?_
              rotate_left
              ·
               simp only [Act.put, zA, zB, zC, i64_w, i32_w]
               rfl
              refine pure_ (i := 19) (N := some 99) (v := ?_) (a' := ?_) #[tt, tt, tt, tt, tt, tt, tt, tt, tt, tt, tt, tt, tt, tt, tt, tt, tt, tt, tt, tt] rfl rfl (any_of HT_.out (by kernel_rfl)) (fun _ _ _ h => h) (Or.inl ⟨by rfl, ?_⟩) ?_ ?_
              rotate_left
              ·
               intro w'
               go_simp
               with_reducible rfl
              rotate_left
              ·
               simp only [Act.put, zA, zB, zC, i64_w, i32_w]
               rfl
              refine done_ (done_of HT_.out (by kernel_rfl)) ?_
              have hcz142_0 : w140.cell? ⟨gb225, 0, none⟩ = some (.int .i64 0) := (zK BK225.out 0).trans rfl
              have hcz142_1 : w140.cell? ⟨gb225, 1, none⟩ = some (.int .i64 0) := (zK BK225.out 1).trans rfl
              have hcz142_2 : w140.cell? ⟨gb225, 2, none⟩ = some (.string (⟨#[]⟩ : ByteArray)) := (zK BK225.out 2).trans rfl
              have hfz142_0 := zF BK225.out 0
              have hfz142_1 := zF BK225.out 1
              have hfz142_2 := zF BK225.out 2
              try go_wp2
              refine bodyPost_ret (results_ct rfl _ _ gb225 27 #[.int .i64 0, .int .i64 0, .string (⟨#[]⟩ : ByteArray)] (0, 0) _ rfl (by (with_reducible repeat (first | refine zX ?_ _ | refine zY ?_ | refine zZ ?_ _)); refine blk_put (cs := #[.int .i64 0, .int .i64 0, .string (⟨#[]⟩ : ByteArray)]) ?_ 2 _ rfl; (with_reducible repeat (first | refine zX ?_ _ | refine zY ?_ | refine zZ ?_ _)); refine blk_put (cs := #[.int .i64 0, .int .i64 0, .string (⟨#[]⟩ : ByteArray)]) ?_ 1 _ rfl; (with_reducible repeat (first | refine zX ?_ _ | refine zY ?_ | refine zZ ?_ _)); refine blk_put (cs := #[.int .i64 0, .int .i64 0, .string (⟨#[]⟩ : ByteArray)]) ?_ 0 _ rfl; (with_reducible repeat (first | refine zX ?_ _ | refine zY ?_ | refine zZ ?_ _)); exact BK225.out) Try.underlying27 rfl (by kernel_rfl)) rfl ?_
              exact ⟨by first | rfl | (simp [errW_none, errW_some] <;> rfl) | (simp [*, errW_none, errW_some] <;> rfl), by repeat (first | (with_reducible first | exact HB.out | apply zU | apply zV | apply zW | refine zH ?_ GE225.out | refine zH ?_ GE227.out) | exact HB.out)⟩
             ·
              rw [if_neg c136] at H
              have c136b0 : ((t242.length : Int) == 0) = false := beq_eq_false_iff_ne.mpr c136
              have c136b1 : ((t242.length : Int) != 0) = true := bne_iff_ne.mpr c136
              have c136b2 : ¬ (t242 = []) := fun h_ => c136 (by rw [h_]; rfl)
              by_cases c143 : (t242.length : Int) > (l0.length : Int)
              ·
               rw [if_pos c143] at H
               have c143b0 : decide ((l0.length : Int) < (t242.length : Int)) = true := decide_eq_true c143
               have c143b1 : decide (l0.length < t242.length) = true := decide_eq_true (Int.ofNat_lt.mp c143)
               clear c143
               simp only [Option.some.injEq, Prod.mk.injEq] at H
               obtain ⟨rfl, rfl, rfl, rfl⟩ := H
               have p241 : 0 ≤ (1 : Int) := (by omega)
               have q241 : 1 < (l0.length : Int) := zL (by assumption)
               obtain ⟨ad241, e241, hx241_0⟩ := Kd.at_int HR0.out 1 p241 q241
               obtain rfl : ad226 = ad241 := (by injection e241)
               (try simp only [show (1 : Int).toNat = 1 from rfl, Nat.reduceMul, Nat.reduceEqDiff, Go.Addr.add, ↓reduceIte] at hx241_0)
               have qi241 : (1 < l0.length) = True := eq_true (by omega)
               (try rw [show ((1 : Int)).toNat = 1 from rfl] at hx241_0)
               replace hx241_0 := (HB.out.cell (World.block_lt_of_cell? w _ hx241_0)).trans hx241_0
               replace p241 := eq_true p241
               replace q241 := eq_true q241
               have hnb144 := NB227_225.out
               have hnc144 := NB225_227.out
               have hcz145_0 : wc.cell? ⟨gb227, 0, none⟩ = some (.int .i64 (wrap64 (rd l0 0))) := (zK BK227.out 0).trans rfl
               have hcz145_1 : wc.cell? ⟨gb227, 1, none⟩ = some (.int .i64 0) := (zK BK227.out 1).trans rfl
               have hcz145_2 : wc.cell? ⟨gb227, 2, none⟩ = some (.string (⟨#[]⟩ : ByteArray)) := (zK BK227.out 2).trans rfl
               have hfz145_0 := zF BK227.out 0
               have hfz145_1 := zF BK227.out 1
               have hfz145_2 := zF BK227.out 2
               try go_wp2_with (first | ((with_reducible refine gate_callee (f := 16) rfl ?_); refine goesL_ (some 79) rfl rfl Try.func16 (by kernel_rfl) rfl #[.agg #[.int .i64 (wrap64 (rd l0 0)), .int .i64 (wrap64 (rd l0 1)), .string (⟨#[]⟩ : ByteArray)]] rfl (by (try simp only [List.map_toArray, List.map_cons, List.map_nil]); first | done | rfl | (simp only [List.length_drop, List.length_take]; rfl)) ?_; (with_reducible refine (spec_ValueBytes.calls kj126 (wrap64 (rd l0 0)) (wrap64 (rd l0 1)) (⟨#[]⟩ : ByteArray) t242 _ A135.out).mono ?_); rintro e w146 ⟨v243, rfl, ho0, hb⟩; refine ⟨_, rfl, ?_⟩; have n0_ := zM (Kd.R_lower ho0 (zI (by repeat (first | (with_reducible first | exact HB.out | apply zU | apply zV | apply zW | refine zH ?_ GE225.out | refine zH ?_ GE227.out) | exact HB.out)))); have n1_ := zM (zJ (g := gb225) (o := .cells #[.int .i64 0, .int .i64 0, .string (⟨#[]⟩ : ByteArray)] 27 (0, 0)) (by (with_reducible repeat (first | refine zX ?_ _ | refine zY ?_ | refine zZ ?_ _)); refine blk_far ?_ NB225_227.out _; (with_reducible repeat (first | refine zX ?_ _ | refine zY ?_ | refine zZ ?_ _)); exact BK225.out) hb); have n2_ := zM (zJ (g := gb227) (o := .cells #[.int .i64 (wrap64 (rd l0 0)), .int .i64 (wrap64 (rd l0 1)), .string (⟨#[]⟩ : ByteArray)] 27 (0, 0)) (by (with_reducible repeat (first | refine zX ?_ _ | refine zY ?_ | refine zZ ?_ _)); refine blk_put (cs := #[.int .i64 (wrap64 (rd l0 0)), .int .i64 0, .string (⟨#[]⟩ : ByteArray)]) ?_ 1 _ rfl; (with_reducible repeat (first | refine zX ?_ _ | refine zY ?_ | refine zZ ?_ _)); exact BK227.out) hb); have n3_ := zM (zG (by repeat (first | (with_reducible first | exact HB.out | apply zU | apply zV | apply zW | refine zH ?_ GE225.out | refine zH ?_ GE227.out) | exact HB.out)) hb); clear BK225; clear BK227; clear HB; have HO244 := n0_; have BK225 := n1_; have BK227 := n2_; have HB := n3_; clear n0_ n1_ n2_ n3_; (try clear hb); (try clear hb2); (try clear hk); (try clear hi); (try clear ho0)))
               have n0_ := zM (zT HO244.out)
               have n1_ := zM (zY BK225.out)
               have n2_ := zM (zY BK227.out)
               have n3_ := zM (zW HB.out)
               clear HO244
               clear BK225
               clear BK227
               clear HB
               have HO244 := n0_
               have BK225 := n1_
               have BK227 := n2_
               have HB := n3_
               clear n0_ n1_ n2_ n3_
               obtain ⟨Ao148, co148, eo148⟩ := Kd.R_slice HO244.out
               (first | subst eo148 | (injection eo148 with f1_ f2_ f3_; have f4_ := f1_.symm; have f5_ := f3_.symm; clear f1_ f2_ f3_; subst f4_; subst f5_))
               refine start_ (n := 20) (S := fun w' => True) (ds := []) #[ff, ff, ff, ff, ff, ff, ff, ff, ff, ff, ff, ff, ff, ff, ff, ff, ff, ff, ff, ff] (by kernel_rfl) rfl rfl trivial (fun hHeld => ?_); refine with_tabW spec_ValueFrom.tab11 spec_ValueFrom.bits11 (fun HT_ HW_ => ?_)
               generalize w146.drew = w147 at HO244 BK225 BK227 HB hHeld ⊢
               refine pure_ (i := 0) (N := some 80) (v := ?_) (a' := ?_) #[tt, ff, ff, ff, ff, ff, ff, ff, ff, ff, ff, ff, ff, ff, ff, ff, ff, ff, ff, ff] rfl rfl (any_of HT_.out (by kernel_rfl)) (fun _ _ _ h => h) (Or.inl ⟨by rfl, ?_⟩) ?_ ?_
               rotate_left
               ·
                intro w'
                go_simp
                with_reducible rfl
               rotate_left
               ·
                simp only [Act.put, zA, zB, zC, i64_w, i32_w]
                rfl
               refine pure_ (i := 1) (N := some 81) (v := ?_) (a' := ?_) #[tt, tt, ff, ff, ff, ff, ff, ff, ff, ff, ff, ff, ff, ff, ff, ff, ff, ff, ff, ff] rfl rfl (any_of HT_.out (by kernel_rfl)) (fun _ _ _ h => h) (Or.inl ⟨by rfl, ?_⟩) ?_ ?_
               rotate_left
               ·
                intro w'
                go_simp
                with_reducible rfl
               rotate_left
               ·
                simp only [Act.put, zA, zB, zC, i64_w, i32_w]
                rfl
               refine pure_ (i := 2) (N := some 82) (v := ?_) (a' := ?_) #[tt, tt, tt, ff, ff, ff, ff, ff, ff, ff, ff, ff, ff, ff, ff, ff, ff, ff, ff, ff] rfl rfl (any_of HT_.out (by kernel_rfl)) (fun _ _ _ h => h) (Or.inl ⟨by rfl, ?_⟩) ?_ ?_
               rotate_left
               ·
                intro w'
                go_simp
                with_reducible rfl
               rotate_left
               ·
                simp only [Act.put, zA, zB, zC, i64_w, i32_w]
                rfl
               refine pure_ (i := 3) (N := some 83) (v := ?_) (a' := ?_) #[tt, tt, tt, tt, ff, ff, ff, ff, ff, ff, ff, ff, ff, ff, ff, ff, ff, ff, ff, ff] rfl rfl (any_of HT_.out (by kernel_rfl)) (fun _ _ _ h => h) (Or.inl ⟨by rfl, ?_⟩) ?_ ?_
               rotate_left
               ·
                intro w'
                go_simp
                with_reducible rfl
               rotate_left
               ·
                simp only [Act.put, zA, zB, zC, i64_w, i32_w]
                rfl
               refine pure_ (i := 4) (N := some 84) (v := ?_) (a' := ?_) #[tt, tt, tt, tt, tt, ff, ff, ff, ff, ff, ff, ff, ff, ff, ff, ff, ff, ff, ff, ff] rfl rfl (any_of HT_.out (by kernel_rfl)) (fun _ _ _ h => h) (Or.inl ⟨by rfl, ?_⟩) ?_ ?_
               rotate_left
               ·
                intro w'
                go_simp
                with_reducible rfl
               rotate_left
               ·
                simp only [Act.put, zA, zB, zC, i64_w, i32_w]
                rfl
               refine pure_ (i := 5) (N := some 85) (v := ?_) (a' := ?_) #[tt, tt, tt, tt, tt, tt, ff, ff, ff, ff, ff, ff, ff, ff, ff, ff, ff, ff, ff, ff] rfl rfl (any_of HT_.out (by kernel_rfl)) (fun _ _ _ h => h) (Or.inl ⟨by rfl, ?_⟩) ?_ ?_
               rotate_left
               ·
                intro w'
                go_simp
                with_reducible rfl
               rotate_left
               ·
                simp only [Act.put, zA, zB, zC, i64_w, i32_w]
                rfl
               refine pure_ (i := 6) (N := some 86) (v := ?_) (a' := ?_) #[tt, tt, tt, tt, tt, tt, tt, ff, ff, ff, ff, ff, ff, ff, ff, ff, ff, ff, ff, ff] rfl rfl (any_of HT_.out (by kernel_rfl)) (fun _ _ _ h => h) (Or.inl ⟨by rfl, ?_⟩) ?_ ?_
               rotate_left
               ·
                intro w'
                go_simp
                with_reducible rfl
               rotate_left
               ·
                simp only [Act.put, zA, zB, zC, i64_w, i32_w]
                rfl
               refine pure_ (i := 7) (N := some 87) (v := ?_) (a' := ?_) #[tt, tt, tt, tt, tt, tt, tt, tt, ff, ff, ff, ff, ff, ff, ff, ff, ff, ff, ff, ff] rfl rfl (any_of HT_.out (by kernel_rfl)) (fun _ _ _ h => h) (Or.inl ⟨by rfl, ?_⟩) ?_ ?_
               rotate_left
               ·
                intro w'
                go_simp
                with_reducible rfl
               rotate_left
               ·
                simp only [Act.put, zA, zB, zC, i64_w, i32_w]
                rfl
               refine pure_ (i := 8) (N := some 88) (v := ?_) (a' := ?_) #[tt, tt, tt, tt, tt, tt, tt, tt, tt, ff, ff, ff, ff, ff, ff, ff, ff, ff, ff, ff] rfl rfl (any_of HT_.out (by kernel_rfl)) (fun _ _ _ h => h) (Or.inl ⟨by rfl, ?_⟩) ?_ ?_
               rotate_left
               ·
                intro w'
                go_simp
                with_reducible rfl
               rotate_left
               ·
                simp only [Act.put, zA, zB, zC, i64_w, i32_w]
                rfl
               refine pure_ (i := 9) (N := some 89) (v := ?_) (a' := ?_) #[tt, tt, tt, tt, tt, tt, tt, tt, tt, tt, ff, ff, ff, ff, ff, ff, ff, ff, ff, ff] rfl rfl (any_of HT_.out (by kernel_rfl)) (fun _ _ _ h => h) (Or.inl ⟨by rfl, ?_⟩) ?_ ?_
               rotate_left
               ·
                intro w'
                go_simp
                with_reducible rfl
               rotate_left
               ·
                simp only [Act.put, zA, zB, zC, i64_w, i32_w]
                rfl
               refine pure_ (i := 10) (N := some 90) (v := ?_) (a' := ?_) #[tt, tt, tt, tt, tt, tt, tt, tt, tt, tt, tt, ff, ff, ff, ff, ff, ff, ff, ff, ff] rfl rfl (any_of HT_.out (by kernel_rfl)) (fun _ _ _ h => h) (Or.inl ⟨by rfl, ?_⟩) ?_ ?_
               rotate_left
               ·
                intro w'
                go_simp
                with_reducible rfl
               rotate_left
               ·
                simp only [Act.put, zA, zB, zC, i64_w, i32_w]
                rfl
               refine pure_ (i := 11) (N := some 91) (v := undef) (a' := ?_) #[tt, tt, tt, tt, tt, tt, tt, tt, tt, tt, tt, tt, ff, ff, ff, ff, ff, ff, ff, ff] rfl rfl (any_of HT_.out (by kernel_rfl)) (fun _ _ _ h => h) (Or.inr ⟨by rfl, rfl⟩) ?_ ?_
               rotate_left
               ·
                simp only [Act.put, zA, zB, zC, i64_w, i32_w]
                rfl
               refine pure_ (i := 12) (N := some 92) (v := undef) (a' := ?_) #[tt, tt, tt, tt, tt, tt, tt, tt, tt, tt, tt, tt, tt, ff, ff, ff, ff, ff, ff, ff] rfl rfl (any_of HT_.out (by kernel_rfl)) (fun _ _ _ h => h) (Or.inr ⟨by rfl, rfl⟩) ?_ ?_
               rotate_left
               ·
                simp only [Act.put, zA, zB, zC, i64_w, i32_w]
                rfl
               refine pure_ (i := 13) (N := some 93) (v := undef) (a' := ?_) #[tt, tt, tt, tt, tt, tt, tt, tt, tt, tt, tt, tt, tt, tt, ff, ff, ff, ff, ff, ff] rfl rfl (any_of HT_.out (by kernel_rfl)) (fun _ _ _ h => h) (Or.inr ⟨by rfl, rfl⟩) ?_ ?_
               rotate_left
               ·
                simp only [Act.put, zA, zB, zC, i64_w, i32_w]
                rfl
               refine pure_ (i := 14) (N := some 94) (v := undef) (a' := ?_) #[tt, tt, tt, tt, tt, tt, tt, tt, tt, tt, tt, tt, tt, tt, tt, ff, ff, ff, ff, ff] rfl rfl (any_of HT_.out (by kernel_rfl)) (fun _ _ _ h => h) (Or.inr ⟨by rfl, rfl⟩) ?_ ?_
               rotate_left
               ·
                simp only [Act.put, zA, zB, zC, i64_w, i32_w]
                rfl
               refine pure_ (i := 15) (N := some 95) (v := undef) (a' := ?_) #[tt, tt, tt, tt, tt, tt, tt, tt, tt, tt, tt, tt, tt, tt, tt, tt, ff, ff, ff, ff] rfl rfl (any_of HT_.out (by kernel_rfl)) (fun _ _ _ h => h) (Or.inr ⟨by rfl, rfl⟩) ?_ ?_
               rotate_left
               ·
                simp only [Act.put, zA, zB, zC, i64_w, i32_w]
                rfl
               refine pure_ (i := 16) (N := some 96) (v := undef) (a' := ?_) #[tt, tt, tt, tt, tt, tt, tt, tt, tt, tt, tt, tt, tt, tt, tt, tt, tt, ff, ff, ff] rfl rfl (any_of HT_.out (by kernel_rfl)) (fun _ _ _ h => h) (Or.inr ⟨by rfl, rfl⟩) ?_ ?_
               rotate_left
               ·
                simp only [Act.put, zA, zB, zC, i64_w, i32_w]
                rfl
               refine pure_ (i := 17) (N := some 97) (v := undef) (a' := ?_) #[tt, tt, tt, tt, tt, tt, tt, tt, tt, tt, tt, tt, tt, tt, tt, tt, tt, tt, ff, ff] rfl rfl (any_of HT_.out (by kernel_rfl)) (fun _ _ _ h => h) (Or.inr ⟨by rfl, rfl⟩) ?_ ?_
               rotate_left
               ·
                simp only [Act.put, zA, zB, zC, i64_w, i32_w]
                rfl
               refine pure_ (i := 18) (N := some 98) (v := undef) (a' := ?_) #[tt, tt, tt, tt, tt, tt, tt, tt, tt, tt, tt, tt, tt, tt, tt, tt, tt, tt, tt, ff] rfl rfl (any_of HT_.out (by kernel_rfl)) (fun _ _ _ h => h) (Or.inr ⟨by rfl, rfl⟩) ?_ ?_
               rotate_left
               ·
                simp only [Act.put, zA, zB, zC, i64_w, i32_w]
                rfl
               refine pure_ (i := 19) (N := some 99) (v := ?_) (a' := ?_) #[tt, tt, tt, tt, tt, tt, tt, tt, tt, tt, tt, tt, tt, tt, tt, tt, tt, tt, tt, tt] rfl rfl (any_of HT_.out (by kernel_rfl)) (fun _ _ _ h => h) (Or.inl ⟨by rfl, ?_⟩) ?_ ?_
               rotate_left
               ·
                intro w'
                go_simp
                with_reducible rfl
               rotate_left
               ·
                simp only [Act.put, zA, zB, zC, i64_w, i32_w]
                rfl
               refine done_ (done_of HT_.out (by kernel_rfl)) ?_
               have hcz149_0 : w147.cell? ⟨gb225, 0, none⟩ = some (.int .i64 0) := (zK BK225.out 0).trans rfl
               have hcz149_1 : w147.cell? ⟨gb225, 1, none⟩ = some (.int .i64 0) := (zK BK225.out 1).trans rfl
               have hcz149_2 : w147.cell? ⟨gb225, 2, none⟩ = some (.string (⟨#[]⟩ : ByteArray)) := (zK BK225.out 2).trans rfl
               have hfz149_0 := zF BK225.out 0
               have hfz149_1 := zF BK225.out 1
               have hfz149_2 := zF BK225.out 2
               try go_wp2
               refine bodyPost_ret (results_ct rfl _ _ gb225 27 #[.int .i64 0, .int .i64 0, .string (⟨#[]⟩ : ByteArray)] (0, 0) _ rfl (by (with_reducible repeat (first | refine zX ?_ _ | refine zY ?_ | refine zZ ?_ _)); refine blk_put (cs := #[.int .i64 0, .int .i64 0, .string (⟨#[]⟩ : ByteArray)]) ?_ 2 _ rfl; (with_reducible repeat (first | refine zX ?_ _ | refine zY ?_ | refine zZ ?_ _)); refine blk_put (cs := #[.int .i64 0, .int .i64 0, .string (⟨#[]⟩ : ByteArray)]) ?_ 1 _ rfl; (with_reducible repeat (first | refine zX ?_ _ | refine zY ?_ | refine zZ ?_ _)); refine blk_put (cs := #[.int .i64 0, .int .i64 0, .string (⟨#[]⟩ : ByteArray)]) ?_ 0 _ rfl; (with_reducible repeat (first | refine zX ?_ _ | refine zY ?_ | refine zZ ?_ _)); exact BK225.out) Try.underlying27 rfl (by kernel_rfl)) rfl ?_
               exact ⟨by first | rfl | (simp [errW_none, errW_some] <;> rfl) | (simp [*, errW_none, errW_some] <;> rfl), by repeat (first | (with_reducible first | exact HB.out | apply zU | apply zV | apply zW | refine zH ?_ GE225.out | refine zH ?_ GE227.out) | exact HB.out)⟩
              ·
               rw [if_neg c143] at H
               have c143b0 : decide ((l0.length : Int) < (t242.length : Int)) = false := decide_eq_false c143
               have c143b1 : decide (l0.length < t242.length) = false := decide_eq_false (fun h => c143 (Int.ofNat_lt.mpr h))
               clear c143
               by_cases c150 : 0 ≤ (t242.length : Int)
               ·
                rw [if_pos c150] at H
                have c150b0 := eq_true c150
                have c150b1 : decide (0 ≤ (t242.length : Int)) = true := decide_eq_true c150
                clear c150
                by_cases c151 : (t242.length : Int) ≤ (l0.length : Int)
                ·
                 rw [if_pos c151] at H
                 have c151b0 := eq_true c151
                 have c151b1 : decide ((t242.length : Int) ≤ (l0.length : Int)) = true := decide_eq_true c151
                 clear c151
                 by_cases c152 : (strOfNums t242).toList = (strOfNums (l0.take ((t242.length : Int) : Int).toNat)).toList
                 ·
                  rw [if_pos c152] at H
                  have c152b0 : ((strOfNums t242).toList == (strOfNums (l0.take ((t242.length : Int) : Int).toNat)).toList) = true := beq_iff_eq.mpr c152
                  have c152b2 : ((strOfNums t242).toList == (strOfNums (l0.take t242.length)).toList) = true := c152b0
                  have c152b1 : ((strOfNums t242).toList != (strOfNums (l0.take ((t242.length : Int) : Int).toNat)).toList) = false := bne_eq_false_iff_eq.mpr c152
                  have c152b3 : ((strOfNums t242).toList != (strOfNums (l0.take t242.length)).toList) = false := c152b1
                  clear c152
                  simp only [Option.some.injEq, Prod.mk.injEq] at H
                  obtain ⟨rfl, rfl, rfl, rfl⟩ := H
                  have p241 : 0 ≤ (1 : Int) := (by omega)
                  have q241 : 1 < (l0.length : Int) := zL (by assumption)
                  obtain ⟨ad241, e241, hx241_0⟩ := Kd.at_int HR0.out 1 p241 q241
                  obtain rfl : ad226 = ad241 := (by injection e241)
                  (try simp only [show (1 : Int).toNat = 1 from rfl, Nat.reduceMul, Nat.reduceEqDiff, Go.Addr.add, ↓reduceIte] at hx241_0)
                  have qi241 : (1 < l0.length) = True := eq_true (by omega)
                  (try rw [show ((1 : Int)).toNat = 1 from rfl] at hx241_0)
                  replace hx241_0 := (HB.out.cell (World.block_lt_of_cell? w _ hx241_0)).trans hx241_0
                  replace p241 := eq_true p241
                  replace q241 := eq_true q241
                  have hnb153 := NB227_225.out
                  have hnc153 := NB225_227.out
                  have hcz154_0 : wc.cell? ⟨gb227, 0, none⟩ = some (.int .i64 (wrap64 (rd l0 0))) := (zK BK227.out 0).trans rfl
                  have hcz154_1 : wc.cell? ⟨gb227, 1, none⟩ = some (.int .i64 0) := (zK BK227.out 1).trans rfl
                  have hcz154_2 : wc.cell? ⟨gb227, 2, none⟩ = some (.string (⟨#[]⟩ : ByteArray)) := (zK BK227.out 2).trans rfl
                  have hfz154_0 := zF BK227.out 0
                  have hfz154_1 := zF BK227.out 1
                  have hfz154_2 := zF BK227.out 2
                  try go_wp2_with (first | ((with_reducible refine gate_callee (f := 16) rfl ?_); refine goesL_ (some 79) rfl rfl Try.func16 (by kernel_rfl) rfl #[.agg #[.int .i64 (wrap64 (rd l0 0)), .int .i64 (wrap64 (rd l0 1)), .string (⟨#[]⟩ : ByteArray)]] rfl (by (try simp only [List.map_toArray, List.map_cons, List.map_nil]); first | done | rfl | (simp only [List.length_drop, List.length_take]; rfl)) ?_; (with_reducible refine (spec_ValueBytes.calls kj126 (wrap64 (rd l0 0)) (wrap64 (rd l0 1)) (⟨#[]⟩ : ByteArray) t242 _ A135.out).mono ?_); rintro e w155 ⟨v243, rfl, ho0, hb⟩; refine ⟨_, rfl, ?_⟩; have n0_ := zM (Kd.R_lower ho0 (zI (by repeat (first | (with_reducible first | exact HB.out | apply zU | apply zV | apply zW | refine zH ?_ GE225.out | refine zH ?_ GE227.out) | exact HB.out)))); have n1_ := zM (zJ (g := gb225) (o := .cells #[.int .i64 0, .int .i64 0, .string (⟨#[]⟩ : ByteArray)] 27 (0, 0)) (by (with_reducible repeat (first | refine zX ?_ _ | refine zY ?_ | refine zZ ?_ _)); refine blk_far ?_ NB225_227.out _; (with_reducible repeat (first | refine zX ?_ _ | refine zY ?_ | refine zZ ?_ _)); exact BK225.out) hb); have n2_ := zM (zJ (g := gb227) (o := .cells #[.int .i64 (wrap64 (rd l0 0)), .int .i64 (wrap64 (rd l0 1)), .string (⟨#[]⟩ : ByteArray)] 27 (0, 0)) (by (with_reducible repeat (first | refine zX ?_ _ | refine zY ?_ | refine zZ ?_ _)); refine blk_put (cs := #[.int .i64 (wrap64 (rd l0 0)), .int .i64 0, .string (⟨#[]⟩ : ByteArray)]) ?_ 1 _ rfl; (with_reducible repeat (first | refine zX ?_ _ | refine zY ?_ | refine zZ ?_ _)); exact BK227.out) hb); have n3_ := zM (zG (by repeat (first | (with_reducible first | exact HB.out | apply zU | apply zV | apply zW | refine zH ?_ GE225.out | refine zH ?_ GE227.out) | exact HB.out)) hb); clear BK225; clear BK227; clear HB; have HO244 := n0_; have BK225 := n1_; have BK227 := n2_; have HB := n3_; clear n0_ n1_ n2_ n3_; (try clear hb); (try clear hb2); (try clear hk); (try clear hi); (try clear ho0)))
                  have n0_ := zM (zT HO244.out)
                  have n1_ := zM (zY BK225.out)
                  have n2_ := zM (zY BK227.out)
                  have n3_ := zM (zW HB.out)
                  clear HO244
                  clear BK225
                  clear BK227
                  clear HB
                  have HO244 := n0_
                  have BK225 := n1_
                  have BK227 := n2_
                  have HB := n3_
                  clear n0_ n1_ n2_ n3_
                  obtain ⟨Ao157, co157, eo157⟩ := Kd.R_slice HO244.out
                  (first | subst eo157 | (injection eo157 with f1_ f2_ f3_; have f4_ := f1_.symm; have f5_ := f3_.symm; clear f1_ f2_ f3_; subst f4_; subst f5_))
                  obtain ⟨i0158, hi0158, _, hsz158, _⟩ := info_parts info5
                  obtain ⟨hcut158, hA158, hC158⟩ := print_take_of (P := Try.prog) (Value.int .u8) 0 25 5 .i64 Try.underlying25 hi0158 hsz158 (some ad226) c0 l0 (t242.length : Int) (zL (by assumption)) (zL (by assumption)) HC0.out
                  have HR245 := zM (Kd.C_of_reads (h1 := fun _ => rfl) (hA158 _ (Kd.reads_of_C HR0.out)))
                  have HC245 := zM hC158
                  clear hA158 hC158 hi0158 hsz158
                  have hcv159 := own_string (P := Try.prog) Try.underlying25 Try.underlying5 Try.underlying9 (Kd.own_of_R HO244.out)
                  have hcv160 := Kd.C_string (P := Try.prog) (A := (some ad226)) (c := c0) Try.underlying25 Try.underlying5 Try.underlying9 (Kd.C_below HR245.out HB.out)
                  rw [List.length_take, show min (Int.toNat (t242.length : Int)) l0.length = min t242.length l0.length from rfl] at hcv160
                  refine start_ (n := 20) (S := fun w' => w' = w155.drew) (ds := []) #[ff, ff, ff, ff, ff, ff, ff, ff, ff, ff, ff, ff, ff, ff, ff, ff, ff, ff, ff, ff] (by kernel_rfl) rfl rfl rfl (fun hHeld => ?_); refine with_tabW spec_ValueFrom.tab11 spec_ValueFrom.bits11 (fun HT_ HW_ => ?_)
                  generalize w155.drew = w156 at HO244 BK225 BK227 HB HR245 hcv159 hcv160 hHeld ⊢
                  refine pure_ (i := 0) (N := some 80) (v := ?_) (a' := ?_) #[tt, ff, ff, ff, ff, ff, ff, ff, ff, ff, ff, ff, ff, ff, ff, ff, ff, ff, ff, ff] rfl rfl (any_of HT_.out (by kernel_rfl)) (fun _ _ _ h => h) (Or.inl ⟨by rfl, ?_⟩) ?_ ?_
                  rotate_left
                  ·
                   intro w'
                   go_simp
                   with_reducible rfl
                  rotate_left
                  ·
                   simp only [Act.put, zA, zB, zC, i64_w, i32_w]
                   rfl
                  refine pure_ (i := 1) (N := some 81) (v := ?_) (a' := ?_) #[tt, tt, ff, ff, ff, ff, ff, ff, ff, ff, ff, ff, ff, ff, ff, ff, ff, ff, ff, ff] rfl rfl (any_of HT_.out (by kernel_rfl)) (fun _ _ _ h => h) (Or.inl ⟨by rfl, ?_⟩) ?_ ?_
                  rotate_left
                  ·
                   intro w'
                   go_simp
                   with_reducible rfl
                  rotate_left
                  ·
                   simp only [Act.put, zA, zB, zC, i64_w, i32_w]
                   rfl
                  refine pure_ (i := 2) (N := some 82) (v := ?_) (a' := ?_) #[tt, tt, tt, ff, ff, ff, ff, ff, ff, ff, ff, ff, ff, ff, ff, ff, ff, ff, ff, ff] rfl rfl (any_of HT_.out (by kernel_rfl)) (fun _ _ _ h => h) (Or.inl ⟨by rfl, ?_⟩) ?_ ?_
                  rotate_left
                  ·
                   intro w'
                   go_simp
                   with_reducible rfl
                  rotate_left
                  ·
                   simp only [Act.put, zA, zB, zC, i64_w, i32_w]
                   rfl
                  refine pure_ (i := 3) (N := some 83) (v := ?_) (a' := ?_) #[tt, tt, tt, tt, ff, ff, ff, ff, ff, ff, ff, ff, ff, ff, ff, ff, ff, ff, ff, ff] rfl rfl (any_of HT_.out (by kernel_rfl)) (fun _ _ _ h => h) (Or.inl ⟨by rfl, ?_⟩) ?_ ?_
                  rotate_left
                  ·
                   intro w'
                   go_simp
                   with_reducible rfl
                  rotate_left
                  ·
                   simp only [Act.put, zA, zB, zC, i64_w, i32_w]
                   rfl
                  refine pure_ (i := 4) (N := some 84) (v := ?_) (a' := ?_) #[tt, tt, tt, tt, tt, ff, ff, ff, ff, ff, ff, ff, ff, ff, ff, ff, ff, ff, ff, ff] rfl rfl (any_of HT_.out (by kernel_rfl)) (fun _ _ _ h => h) (Or.inl ⟨by rfl, ?_⟩) ?_ ?_
                  rotate_left
                  ·
                   intro w'
                   go_simp
                   with_reducible rfl
                  rotate_left
                  ·
                   simp only [Act.put, zA, zB, zC, i64_w, i32_w]
                   rfl
                  refine pure_ (i := 5) (N := some 85) (v := ?_) (a' := ?_) #[tt, tt, tt, tt, tt, tt, ff, ff, ff, ff, ff, ff, ff, ff, ff, ff, ff, ff, ff, ff] rfl rfl (any_of HT_.out (by kernel_rfl)) (fun _ _ _ h => h) (Or.inl ⟨by rfl, ?_⟩) ?_ ?_
                  rotate_left
                  ·
                   intro w'
                   go_simp
                   with_reducible rfl
                  rotate_left
                  ·
                   simp only [Act.put, zA, zB, zC, i64_w, i32_w]
                   rfl
                  refine pure_ (i := 6) (N := some 86) (v := ?_) (a' := ?_) #[tt, tt, tt, tt, tt, tt, tt, ff, ff, ff, ff, ff, ff, ff, ff, ff, ff, ff, ff, ff] rfl rfl (any_of HT_.out (by kernel_rfl)) (fun _ _ _ h => h) (Or.inl ⟨by rfl, ?_⟩) ?_ ?_
                  rotate_left
                  ·
                   intro w'
                   go_simp
                   with_reducible rfl
                  rotate_left
                  ·
                   simp only [Act.put, zA, zB, zC, i64_w, i32_w]
                   rfl
                  refine pure_ (i := 7) (N := some 87) (v := ?_) (a' := ?_) #[tt, tt, tt, tt, tt, tt, tt, tt, ff, ff, ff, ff, ff, ff, ff, ff, ff, ff, ff, ff] rfl rfl (any_of HT_.out (by kernel_rfl)) (fun _ _ _ h => h) (Or.inl ⟨by rfl, ?_⟩) ?_ ?_
                  rotate_left
                  ·
                   intro w'
                   go_simp
                   with_reducible rfl
                  rotate_left
                  ·
                   simp only [Act.put, zA, zB, zC, i64_w, i32_w]
                   rfl
                  refine pure_ (i := 8) (N := some 88) (v := ?_) (a' := ?_) #[tt, tt, tt, tt, tt, tt, tt, tt, tt, ff, ff, ff, ff, ff, ff, ff, ff, ff, ff, ff] rfl rfl (any_of HT_.out (by kernel_rfl)) (fun _ _ _ h => h) (Or.inl ⟨by rfl, ?_⟩) ?_ ?_
                  rotate_left
                  ·
                   intro w'
                   go_simp
                   with_reducible rfl
                  rotate_left
                  ·
                   simp only [Act.put, zA, zB, zC, i64_w, i32_w]
                   rfl
                  refine pure_ (i := 9) (N := some 89) (v := ?_) (a' := ?_) #[tt, tt, tt, tt, tt, tt, tt, tt, tt, tt, ff, ff, ff, ff, ff, ff, ff, ff, ff, ff] rfl rfl (any_of HT_.out (by kernel_rfl)) (fun _ _ _ h => h) (Or.inl ⟨by rfl, ?_⟩) ?_ ?_
                  rotate_left
                  ·
                   intro w'
                   go_simp
                   with_reducible rfl
                  rotate_left
                  ·
                   simp only [Act.put, zA, zB, zC, i64_w, i32_w]
                   rfl
                  refine pure_ (i := 10) (N := some 90) (v := ?_) (a' := ?_) #[tt, tt, tt, tt, tt, tt, tt, tt, tt, tt, tt, ff, ff, ff, ff, ff, ff, ff, ff, ff] rfl rfl (any_of HT_.out (by kernel_rfl)) (fun _ _ _ h => h) (Or.inl ⟨by rfl, ?_⟩) ?_ ?_
                  rotate_left
                  ·
                   intro w'
                   go_simp
                   with_reducible rfl
                  rotate_left
                  ·
                   simp only [Act.put, zA, zB, zC, i64_w, i32_w]
                   rfl
                  refine pure_ (i := 11) (N := some 91) (v := ?_) (a' := ?_) #[tt, tt, tt, tt, tt, tt, tt, tt, tt, tt, tt, tt, ff, ff, ff, ff, ff, ff, ff, ff] rfl rfl (any_of HT_.out (by kernel_rfl)) (fun _ _ _ h => h) (Or.inl ⟨by rfl, ?_⟩) ?_ ?_
                  rotate_left
                  ·
                   intro w'
                   go_simp
                   with_reducible rfl
                  rotate_left
                  ·
                   simp only [Act.put, zA, zB, zC, i64_w, i32_w]
                   rfl
                  refine take_ (i := 12) (N := some 92) (v := ?_) (a' := ?_) #[tt, tt, tt, tt, tt, tt, tt, tt, tt, tt, tt, tt, tt, ff, ff, ff, ff, ff, ff, ff] rfl rfl (take_ofW HT_.out HW_.out (by kernel_rfl)) (fun _ _ _ h => h) (Or.inl ⟨by rfl, ?_⟩) hHeld ?_ ?_
                  rotate_left
                  ·
                   rintro w' rfl
                   go_simp
                   with_reducible rfl
                  rotate_left
                  ·
                   simp only [Act.put, zA, zB, zC, i64_w, i32_w]
                   rfl
                  refine pure_ (i := 13) (N := some 93) (v := ?_) (a' := ?_) #[tt, tt, tt, tt, tt, tt, tt, tt, tt, tt, tt, tt, tt, tt, ff, ff, ff, ff, ff, ff] rfl rfl (any_of HT_.out (by kernel_rfl)) (fun _ _ _ h => h) (Or.inl ⟨by rfl, ?_⟩) ?_ ?_
                  rotate_left
                  ·
                   intro w'
                   go_simp
                   with_reducible rfl
                  rotate_left
                  ·
                   simp only [Act.put, zA, zB, zC, i64_w, i32_w]
                   rfl
                  refine pure_ (i := 14) (N := some 94) (v := ?_) (a' := ?_) #[tt, tt, tt, tt, tt, tt, tt, tt, tt, tt, tt, tt, tt, tt, tt, ff, ff, ff, ff, ff] rfl rfl (any_of HT_.out (by kernel_rfl)) (fun _ _ _ h => h) (Or.inl ⟨by rfl, ?_⟩) ?_ ?_
                  rotate_left
                  ·
                   intro w'
                   go_simp
                   with_reducible rfl
                  rotate_left
                  ·
                   simp only [Act.put, zA, zB, zC, i64_w, i32_w]
                   rfl
                  refine pure_ (i := 15) (N := some 95) (v := ?_) (a' := ?_) #[tt, tt, tt, tt, tt, tt, tt, tt, tt, tt, tt, tt, tt, tt, tt, tt, ff, ff, ff, ff] rfl rfl (any_of HT_.out (by kernel_rfl)) (fun _ _ _ h => h) (Or.inl ⟨by rfl, ?_⟩) ?_ ?_
                  rotate_left
                  ·
                   intro w'
                   go_simp
                   with_reducible rfl
                  rotate_left
                  ·
                   simp only [Act.put, zA, zB, zC, i64_w, i32_w]
                   rfl
                  refine pure_ (i := 16) (N := some 96) (v := ?_) (a' := ?_) #[tt, tt, tt, tt, tt, tt, tt, tt, tt, tt, tt, tt, tt, tt, tt, tt, tt, ff, ff, ff] rfl rfl (any_of HT_.out (by kernel_rfl)) (fun _ _ _ h => h) (Or.inl ⟨by rfl, ?_⟩) ?_ ?_
                  rotate_left
                  ·
                   intro w'
                   go_simp
                   with_reducible rfl
                  rotate_left
                  ·
                   simp only [Act.put, zA, zB, zC, i64_w, i32_w]
                   rfl
                  refine take_ (i := 17) (N := some 97) (v := ?_) (a' := ?_) #[tt, tt, tt, tt, tt, tt, tt, tt, tt, tt, tt, tt, tt, tt, tt, tt, tt, tt, ff, ff] rfl rfl (take_ofW HT_.out HW_.out (by kernel_rfl)) (fun _ _ _ h => h) (Or.inl ⟨by rfl, ?_⟩) hHeld ?_ ?_
                  rotate_left
                  ·
                   rintro w' rfl
                   go_simp
                   with_reducible rfl
                  rotate_left
                  ·
                   simp only [Act.put, zA, zB, zC, i64_w, i32_w]
                   rfl
                  refine take_ (i := 18) (N := some 98) (v := ?_) (a' := ?_) #[tt, tt, tt, tt, tt, tt, tt, tt, tt, tt, tt, tt, tt, tt, tt, tt, tt, tt, tt, ff] rfl rfl (take_ofW HT_.out HW_.out (by kernel_rfl)) (fun _ _ _ h => h) (Or.inl ⟨by rfl, ?_⟩) hHeld ?_ ?_
                  rotate_left
                  ·
                   rintro w' rfl
                   go_simp
                   with_reducible rfl
                  rotate_left
                  ·
                   simp only [Act.put, zA, zB, zC, i64_w, i32_w]
                   rfl
                  refine pure_ (i := 19) (N := some 99) (v := ?_) (a' := ?_) #[tt, tt, tt, tt, tt, tt, tt, tt, tt, tt, tt, tt, tt, tt, tt, tt, tt, tt, tt, tt] rfl rfl (any_of HT_.out (by kernel_rfl)) (fun _ _ _ h => h) (Or.inl ⟨by rfl, ?_⟩) ?_ ?_
                  rotate_left
                  ·
                   intro w'
                   go_simp
                   with_reducible rfl
                  rotate_left
                  ·
                   simp only [Act.put, zA, zB, zC, i64_w, i32_w]
                   rfl
                  refine done_ (done_of HT_.out (by kernel_rfl)) ?_
                  have hcz162_0 : w156.cell? ⟨gb227, 0, none⟩ = some (.int .i64 (wrap64 (rd l0 0))) := (zK BK227.out 0).trans rfl
                  have hcz162_1 : w156.cell? ⟨gb227, 1, none⟩ = some (.int .i64 (wrap64 (rd l0 1))) := (zK BK227.out 1).trans rfl
                  have hcz162_2 : w156.cell? ⟨gb227, 2, none⟩ = some (.string (⟨#[]⟩ : ByteArray)) := (zK BK227.out 2).trans rfl
                  have hfz162_0 := zF BK227.out 0
                  have hfz162_1 := zF BK227.out 1
                  have hfz162_2 := zF BK227.out 2
                  have hcz163_0 : w156.cell? ⟨gb225, 0, none⟩ = some (.int .i64 0) := (zK BK225.out 0).trans rfl
                  have hcz163_1 : w156.cell? ⟨gb225, 1, none⟩ = some (.int .i64 0) := (zK BK225.out 1).trans rfl
                  have hcz163_2 : w156.cell? ⟨gb225, 2, none⟩ = some (.string (⟨#[]⟩ : ByteArray)) := (zK BK225.out 2).trans rfl
                  have hfz163_0 := zF BK225.out 0
                  have hfz163_1 := zF BK225.out 1
                  have hfz163_2 := zF BK225.out 2
                  try go_wp2
                  refine bodyPost_ret (results_ct rfl _ _ gb225 27 #[.int .i64 (wrap64 (rd l0 0)), .int .i64 (wrap64 (rd l0 1)), .string (⟨#[]⟩ : ByteArray)] (0, 0) _ rfl (by (with_reducible repeat (first | refine zX ?_ _ | refine zY ?_ | refine zZ ?_ _)); refine blk_put (cs := #[.int .i64 (wrap64 (rd l0 0)), .int .i64 (wrap64 (rd l0 1)), .string (⟨#[]⟩ : ByteArray)]) ?_ 2 _ rfl; (with_reducible repeat (first | refine zX ?_ _ | refine zY ?_ | refine zZ ?_ _)); refine blk_put (cs := #[.int .i64 (wrap64 (rd l0 0)), .int .i64 0, .string (⟨#[]⟩ : ByteArray)]) ?_ 1 _ rfl; (with_reducible repeat (first | refine zX ?_ _ | refine zY ?_ | refine zZ ?_ _)); refine blk_put (cs := #[.int .i64 0, .int .i64 0, .string (⟨#[]⟩ : ByteArray)]) ?_ 0 _ rfl; (with_reducible repeat (first | refine zX ?_ _ | refine zY ?_ | refine zZ ?_ _)); exact BK225.out) Try.underlying27 rfl (by kernel_rfl)) rfl ?_
                  exact ⟨by first | rfl | (simp [errW_none, errW_some] <;> rfl) | (simp [*, errW_none, errW_some] <;> rfl), by repeat (first | (with_reducible first | exact HB.out | apply zU | apply zV | apply zW | refine zH ?_ GE225.out | refine zH ?_ GE227.out) | exact HB.out)⟩
                 ·
                  rw [if_neg c152] at H
                  have c152b0 : ((strOfNums t242).toList == (strOfNums (l0.take ((t242.length : Int) : Int).toNat)).toList) = false := beq_eq_false_iff_ne.mpr c152
                  have c152b2 : ((strOfNums t242).toList == (strOfNums (l0.take t242.length)).toList) = false := c152b0
                  have c152b1 : ((strOfNums t242).toList != (strOfNums (l0.take ((t242.length : Int) : Int).toNat)).toList) = true := bne_iff_ne.mpr c152
                  have c152b3 : ((strOfNums t242).toList != (strOfNums (l0.take t242.length)).toList) = true := c152b1
                  simp only [Option.some.injEq, Prod.mk.injEq] at H
                  obtain ⟨rfl, rfl, rfl, rfl⟩ := H
                  have p241 : 0 ≤ (1 : Int) := (by omega)
                  have q241 : 1 < (l0.length : Int) := zL (by assumption)
                  obtain ⟨ad241, e241, hx241_0⟩ := Kd.at_int HR0.out 1 p241 q241
                  obtain rfl : ad226 = ad241 := (by injection e241)
                  (try simp only [show (1 : Int).toNat = 1 from rfl, Nat.reduceMul, Nat.reduceEqDiff, Go.Addr.add, ↓reduceIte] at hx241_0)
                  have qi241 : (1 < l0.length) = True := eq_true (by omega)
                  (try rw [show ((1 : Int)).toNat = 1 from rfl] at hx241_0)
                  replace hx241_0 := (HB.out.cell (World.block_lt_of_cell? w _ hx241_0)).trans hx241_0
                  replace p241 := eq_true p241
                  replace q241 := eq_true q241
                  have hnb164 := NB227_225.out
                  have hnc164 := NB225_227.out
                  have hcz165_0 : wc.cell? ⟨gb227, 0, none⟩ = some (.int .i64 (wrap64 (rd l0 0))) := (zK BK227.out 0).trans rfl
                  have hcz165_1 : wc.cell? ⟨gb227, 1, none⟩ = some (.int .i64 0) := (zK BK227.out 1).trans rfl
                  have hcz165_2 : wc.cell? ⟨gb227, 2, none⟩ = some (.string (⟨#[]⟩ : ByteArray)) := (zK BK227.out 2).trans rfl
                  have hfz165_0 := zF BK227.out 0
                  have hfz165_1 := zF BK227.out 1
                  have hfz165_2 := zF BK227.out 2
                  try go_wp2_with (first | ((with_reducible refine gate_callee (f := 16) rfl ?_); refine goesL_ (some 79) rfl rfl Try.func16 (by kernel_rfl) rfl #[.agg #[.int .i64 (wrap64 (rd l0 0)), .int .i64 (wrap64 (rd l0 1)), .string (⟨#[]⟩ : ByteArray)]] rfl (by (try simp only [List.map_toArray, List.map_cons, List.map_nil]); first | done | rfl | (simp only [List.length_drop, List.length_take]; rfl)) ?_; (with_reducible refine (spec_ValueBytes.calls kj126 (wrap64 (rd l0 0)) (wrap64 (rd l0 1)) (⟨#[]⟩ : ByteArray) t242 _ A135.out).mono ?_); rintro e w166 ⟨v243, rfl, ho0, hb⟩; refine ⟨_, rfl, ?_⟩; have n0_ := zM (Kd.R_lower ho0 (zI (by repeat (first | (with_reducible first | exact HB.out | apply zU | apply zV | apply zW | refine zH ?_ GE225.out | refine zH ?_ GE227.out) | exact HB.out)))); have n1_ := zM (zJ (g := gb225) (o := .cells #[.int .i64 0, .int .i64 0, .string (⟨#[]⟩ : ByteArray)] 27 (0, 0)) (by (with_reducible repeat (first | refine zX ?_ _ | refine zY ?_ | refine zZ ?_ _)); refine blk_far ?_ NB225_227.out _; (with_reducible repeat (first | refine zX ?_ _ | refine zY ?_ | refine zZ ?_ _)); exact BK225.out) hb); have n2_ := zM (zJ (g := gb227) (o := .cells #[.int .i64 (wrap64 (rd l0 0)), .int .i64 (wrap64 (rd l0 1)), .string (⟨#[]⟩ : ByteArray)] 27 (0, 0)) (by (with_reducible repeat (first | refine zX ?_ _ | refine zY ?_ | refine zZ ?_ _)); refine blk_put (cs := #[.int .i64 (wrap64 (rd l0 0)), .int .i64 0, .string (⟨#[]⟩ : ByteArray)]) ?_ 1 _ rfl; (with_reducible repeat (first | refine zX ?_ _ | refine zY ?_ | refine zZ ?_ _)); exact BK227.out) hb); have n3_ := zM (zG (by repeat (first | (with_reducible first | exact HB.out | apply zU | apply zV | apply zW | refine zH ?_ GE225.out | refine zH ?_ GE227.out) | exact HB.out)) hb); clear BK225; clear BK227; clear HB; have HO244 := n0_; have BK225 := n1_; have BK227 := n2_; have HB := n3_; clear n0_ n1_ n2_ n3_; (try clear hb); (try clear hb2); (try clear hk); (try clear hi); (try clear ho0)))
                  have n0_ := zM (zT HO244.out)
                  have n1_ := zM (zY BK225.out)
                  have n2_ := zM (zY BK227.out)
                  have n3_ := zM (zW HB.out)
                  clear HO244
                  clear BK225
                  clear BK227
                  clear HB
                  have HO244 := n0_
                  have BK225 := n1_
                  have BK227 := n2_
                  have HB := n3_
                  clear n0_ n1_ n2_ n3_
                  obtain ⟨Ao168, co168, eo168⟩ := Kd.R_slice HO244.out
                  (first | subst eo168 | (injection eo168 with f1_ f2_ f3_; have f4_ := f1_.symm; have f5_ := f3_.symm; clear f1_ f2_ f3_; subst f4_; subst f5_))
                  obtain ⟨i0169, hi0169, _, hsz169, _⟩ := info_parts info5
                  obtain ⟨hcut169, hA169, hC169⟩ := print_take_of (P := Try.prog) (Value.int .u8) 0 25 5 .i64 Try.underlying25 hi0169 hsz169 (some ad226) c0 l0 (t242.length : Int) (zL (by assumption)) (zL (by assumption)) HC0.out
                  have HR245 := zM (Kd.C_of_reads (h1 := fun _ => rfl) (hA169 _ (Kd.reads_of_C HR0.out)))
                  have HC245 := zM hC169
                  clear hA169 hC169 hi0169 hsz169
                  have hcv170 := own_string (P := Try.prog) Try.underlying25 Try.underlying5 Try.underlying9 (Kd.own_of_R HO244.out)
                  have hcv171 := Kd.C_string (P := Try.prog) (A := (some ad226)) (c := c0) Try.underlying25 Try.underlying5 Try.underlying9 (Kd.C_below HR245.out HB.out)
                  rw [List.length_take, show min (Int.toNat (t242.length : Int)) l0.length = min t242.length l0.length from rfl] at hcv171
                  refine start_ (n := 20) (S := fun w' => w' = w166.drew) (ds := []) #[ff, ff, ff, ff, ff, ff, ff, ff, ff, ff, ff, ff, ff, ff, ff, ff, ff, ff, ff, ff] (by kernel_rfl) rfl rfl rfl (fun hHeld => ?_); refine with_tabW spec_ValueFrom.tab11 spec_ValueFrom.bits11 (fun HT_ HW_ => ?_)
                  generalize w166.drew = w167 at HO244 BK225 BK227 HB HR245 hcv170 hcv171 hHeld ⊢
                  refine pure_ (i := 0) (N := some 80) (v := ?_) (a' := ?_) #[tt, ff, ff, ff, ff, ff, ff, ff, ff, ff, ff, ff, ff, ff, ff, ff, ff, ff, ff, ff] rfl rfl (any_of HT_.out (by kernel_rfl)) (fun _ _ _ h => h) (Or.inl ⟨by rfl, ?_⟩) ?_ ?_
                  rotate_left
                  ·
                   intro w'
                   go_simp
                   with_reducible rfl
                  rotate_left
                  ·
                   simp only [Act.put, zA, zB, zC, i64_w, i32_w]
                   rfl
                  refine pure_ (i := 1) (N := some 81) (v := ?_) (a' := ?_) #[tt, tt, ff, ff, ff, ff, ff, ff, ff, ff, ff, ff, ff, ff, ff, ff, ff, ff, ff, ff] rfl rfl (any_of HT_.out (by kernel_rfl)) (fun _ _ _ h => h) (Or.inl ⟨by rfl, ?_⟩) ?_ ?_
                  rotate_left
                  ·
                   intro w'
                   go_simp
                   with_reducible rfl
                  rotate_left
                  ·
                   simp only [Act.put, zA, zB, zC, i64_w, i32_w]
                   rfl
                  refine pure_ (i := 2) (N := some 82) (v := ?_) (a' := ?_) #[tt, tt, tt, ff, ff, ff, ff, ff, ff, ff, ff, ff, ff, ff, ff, ff, ff, ff, ff, ff] rfl rfl (any_of HT_.out (by kernel_rfl)) (fun _ _ _ h => h) (Or.inl ⟨by rfl, ?_⟩) ?_ ?_
                  rotate_left
                  ·
                   intro w'
                   go_simp
                   with_reducible rfl
                  rotate_left
                  ·
                   simp only [Act.put, zA, zB, zC, i64_w, i32_w]
                   rfl
                  refine pure_ (i := 3) (N := some 83) (v := ?_) (a' := ?_) #[tt, tt, tt, tt, ff, ff, ff, ff, ff, ff, ff, ff, ff, ff, ff, ff, ff, ff, ff, ff] rfl rfl (any_of HT_.out (by kernel_rfl)) (fun _ _ _ h => h) (Or.inl ⟨by rfl, ?_⟩) ?_ ?_
                  rotate_left
                  ·
                   intro w'
                   go_simp
                   with_reducible rfl
                  rotate_left
                  ·
                   simp only [Act.put, zA, zB, zC, i64_w, i32_w]
                   rfl
                  refine pure_ (i := 4) (N := some 84) (v := ?_) (a' := ?_) #[tt, tt, tt, tt, tt, ff, ff, ff, ff, ff, ff, ff, ff, ff, ff, ff, ff, ff, ff, ff] rfl rfl (any_of HT_.out (by kernel_rfl)) (fun _ _ _ h => h) (Or.inl ⟨by rfl, ?_⟩) ?_ ?_
                  rotate_left
                  ·
                   intro w'
                   go_simp
                   with_reducible rfl
                  rotate_left
                  ·
                   simp only [Act.put, zA, zB, zC, i64_w, i32_w]
                   rfl
                  refine pure_ (i := 5) (N := some 85) (v := ?_) (a' := ?_) #[tt, tt, tt, tt, tt, tt, ff, ff, ff, ff, ff, ff, ff, ff, ff, ff, ff, ff, ff, ff] rfl rfl (any_of HT_.out (by kernel_rfl)) (fun _ _ _ h => h) (Or.inl ⟨by rfl, ?_⟩) ?_ ?_
                  rotate_left
                  ·
                   intro w'
                   go_simp
                   with_reducible rfl
                  rotate_left
                  ·
                   simp only [Act.put, zA, zB, zC, i64_w, i32_w]
                   rfl
                  refine pure_ (i := 6) (N := some 86) (v := ?_) (a' := ?_) #[tt, tt, tt, tt, tt, tt, tt, ff, ff, ff, ff, ff, ff, ff, ff, ff, ff, ff, ff, ff] rfl rfl (any_of HT_.out (by kernel_rfl)) (fun _ _ _ h => h) (Or.inl ⟨by rfl, ?_⟩) ?_ ?_
                  rotate_left
                  ·
                   intro w'
                   go_simp
                   with_reducible rfl
                  rotate_left
                  ·
                   simp only [Act.put, zA, zB, zC, i64_w, i32_w]
                   rfl
                  refine pure_ (i := 7) (N := some 87) (v := ?_) (a' := ?_) #[tt, tt, tt, tt, tt, tt, tt, tt, ff, ff, ff, ff, ff, ff, ff, ff, ff, ff, ff, ff] rfl rfl (any_of HT_.out (by kernel_rfl)) (fun _ _ _ h => h) (Or.inl ⟨by rfl, ?_⟩) ?_ ?_
                  rotate_left
                  ·
                   intro w'
                   go_simp
                   with_reducible rfl
                  rotate_left
                  ·
                   simp only [Act.put, zA, zB, zC, i64_w, i32_w]
                   rfl
                  refine pure_ (i := 8) (N := some 88) (v := ?_) (a' := ?_) #[tt, tt, tt, tt, tt, tt, tt, tt, tt, ff, ff, ff, ff, ff, ff, ff, ff, ff, ff, ff] rfl rfl (any_of HT_.out (by kernel_rfl)) (fun _ _ _ h => h) (Or.inl ⟨by rfl, ?_⟩) ?_ ?_
                  rotate_left
                  ·
                   intro w'
                   go_simp
                   with_reducible rfl
                  rotate_left
                  ·
                   simp only [Act.put, zA, zB, zC, i64_w, i32_w]
                   rfl
                  refine pure_ (i := 9) (N := some 89) (v := ?_) (a' := ?_) #[tt, tt, tt, tt, tt, tt, tt, tt, tt, tt, ff, ff, ff, ff, ff, ff, ff, ff, ff, ff] rfl rfl (any_of HT_.out (by kernel_rfl)) (fun _ _ _ h => h) (Or.inl ⟨by rfl, ?_⟩) ?_ ?_
                  rotate_left
                  ·
                   intro w'
                   go_simp
                   with_reducible rfl
                  rotate_left
                  ·
                   simp only [Act.put, zA, zB, zC, i64_w, i32_w]
                   rfl
                  refine pure_ (i := 10) (N := some 90) (v := ?_) (a' := ?_) #[tt, tt, tt, tt, tt, tt, tt, tt, tt, tt, tt, ff, ff, ff, ff, ff, ff, ff, ff, ff] rfl rfl (any_of HT_.out (by kernel_rfl)) (fun _ _ _ h => h) (Or.inl ⟨by rfl, ?_⟩) ?_ ?_
                  rotate_left
                  ·
                   intro w'
                   go_simp
                   with_reducible rfl
                  rotate_left
                  ·
                   simp only [Act.put, zA, zB, zC, i64_w, i32_w]
                   rfl
                  refine pure_ (i := 11) (N := some 91) (v := ?_) (a' := ?_) #[tt, tt, tt, tt, tt, tt, tt, tt, tt, tt, tt, tt, ff, ff, ff, ff, ff, ff, ff, ff] rfl rfl (any_of HT_.out (by kernel_rfl)) (fun _ _ _ h => h) (Or.inl ⟨by rfl, ?_⟩) ?_ ?_
                  rotate_left
                  ·
                   intro w'
                   go_simp
                   with_reducible rfl
                  rotate_left
                  ·
                   simp only [Act.put, zA, zB, zC, i64_w, i32_w]
                   rfl
                  refine take_ (i := 12) (N := some 92) (v := ?_) (a' := ?_) #[tt, tt, tt, tt, tt, tt, tt, tt, tt, tt, tt, tt, tt, ff, ff, ff, ff, ff, ff, ff] rfl rfl (take_ofW HT_.out HW_.out (by kernel_rfl)) (fun _ _ _ h => h) (Or.inl ⟨by rfl, ?_⟩) hHeld ?_ ?_
                  rotate_left
                  ·
                   rintro w' rfl
                   go_simp
                   with_reducible rfl
                  rotate_left
                  ·
                   simp only [Act.put, zA, zB, zC, i64_w, i32_w]
                   rfl
                  refine pure_ (i := 13) (N := some 93) (v := ?_) (a' := ?_) #[tt, tt, tt, tt, tt, tt, tt, tt, tt, tt, tt, tt, tt, tt, ff, ff, ff, ff, ff, ff] rfl rfl (any_of HT_.out (by kernel_rfl)) (fun _ _ _ h => h) (Or.inl ⟨by rfl, ?_⟩) ?_ ?_
                  rotate_left
                  ·
                   intro w'
                   go_simp
                   with_reducible rfl
                  rotate_left
                  ·
                   simp only [Act.put, zA, zB, zC, i64_w, i32_w]
                   rfl
                  refine pure_ (i := 14) (N := some 94) (v := ?_) (a' := ?_) #[tt, tt, tt, tt, tt, tt, tt, tt, tt, tt, tt, tt, tt, tt, tt, ff, ff, ff, ff, ff] rfl rfl (any_of HT_.out (by kernel_rfl)) (fun _ _ _ h => h) (Or.inl ⟨by rfl, ?_⟩) ?_ ?_
                  rotate_left
                  ·
                   intro w'
                   go_simp
                   with_reducible rfl
                  rotate_left
                  ·
                   simp only [Act.put, zA, zB, zC, i64_w, i32_w]
                   rfl
                  refine pure_ (i := 15) (N := some 95) (v := ?_) (a' := ?_) #[tt, tt, tt, tt, tt, tt, tt, tt, tt, tt, tt, tt, tt, tt, tt, tt, ff, ff, ff, ff] rfl rfl (any_of HT_.out (by kernel_rfl)) (fun _ _ _ h => h) (Or.inl ⟨by rfl, ?_⟩) ?_ ?_
                  rotate_left
                  ·
                   intro w'
                   go_simp
                   with_reducible rfl
                  rotate_left
                  ·
                   simp only [Act.put, zA, zB, zC, i64_w, i32_w]
                   rfl
                  refine pure_ (i := 16) (N := some 96) (v := ?_) (a' := ?_) #[tt, tt, tt, tt, tt, tt, tt, tt, tt, tt, tt, tt, tt, tt, tt, tt, tt, ff, ff, ff] rfl rfl (any_of HT_.out (by kernel_rfl)) (fun _ _ _ h => h) (Or.inl ⟨by rfl, ?_⟩) ?_ ?_
                  rotate_left
                  ·
                   intro w'
                   go_simp
                   with_reducible rfl
                  rotate_left
                  ·
                   simp only [Act.put, zA, zB, zC, i64_w, i32_w]
                   rfl
                  refine take_ (i := 17) (N := some 97) (v := ?_) (a' := ?_) #[tt, tt, tt, tt, tt, tt, tt, tt, tt, tt, tt, tt, tt, tt, tt, tt, tt, tt, ff, ff] rfl rfl (take_ofW HT_.out HW_.out (by kernel_rfl)) (fun _ _ _ h => h) (Or.inl ⟨by rfl, ?_⟩) hHeld ?_ ?_
                  rotate_left
                  ·
                   rintro w' rfl
                   go_simp
                   with_reducible rfl
                  rotate_left
                  ·
                   simp only [Act.put, zA, zB, zC, i64_w, i32_w]
                   rfl
                  refine take_ (i := 18) (N := some 98) (v := ?_) (a' := ?_) #[tt, tt, tt, tt, tt, tt, tt, tt, tt, tt, tt, tt, tt, tt, tt, tt, tt, tt, tt, ff] rfl rfl (take_ofW HT_.out HW_.out (by kernel_rfl)) (fun _ _ _ h => h) (Or.inl ⟨by rfl, ?_⟩) hHeld ?_ ?_
                  rotate_left
                  ·
                   rintro w' rfl
                   go_simp
                   with_reducible rfl
                  rotate_left
                  ·
                   simp only [Act.put, zA, zB, zC, i64_w, i32_w]
                   rfl
                  refine pure_ (i := 19) (N := some 99) (v := ?_) (a' := ?_) #[tt, tt, tt, tt, tt, tt, tt, tt, tt, tt, tt, tt, tt, tt, tt, tt, tt, tt, tt, tt] rfl rfl (any_of HT_.out (by kernel_rfl)) (fun _ _ _ h => h) (Or.inl ⟨by rfl, ?_⟩) ?_ ?_
                  rotate_left
                  ·
                   intro w'
                   go_simp
                   with_reducible rfl
                  rotate_left
                  ·
                   simp only [Act.put, zA, zB, zC, i64_w, i32_w]
                   rfl
                  refine done_ (done_of HT_.out (by kernel_rfl)) ?_
                  have hcz173_0 : w167.cell? ⟨gb225, 0, none⟩ = some (.int .i64 0) := (zK BK225.out 0).trans rfl
                  have hcz173_1 : w167.cell? ⟨gb225, 1, none⟩ = some (.int .i64 0) := (zK BK225.out 1).trans rfl
                  have hcz173_2 : w167.cell? ⟨gb225, 2, none⟩ = some (.string (⟨#[]⟩ : ByteArray)) := (zK BK225.out 2).trans rfl
                  have hfz173_0 := zF BK225.out 0
                  have hfz173_1 := zF BK225.out 1
                  have hfz173_2 := zF BK225.out 2
                  try go_wp2
                  refine bodyPost_ret (results_ct rfl _ _ gb225 27 #[.int .i64 0, .int .i64 0, .string (⟨#[]⟩ : ByteArray)] (0, 0) _ rfl (by (with_reducible repeat (first | refine zX ?_ _ | refine zY ?_ | refine zZ ?_ _)); refine blk_put (cs := #[.int .i64 0, .int .i64 0, .string (⟨#[]⟩ : ByteArray)]) ?_ 2 _ rfl; (with_reducible repeat (first | refine zX ?_ _ | refine zY ?_ | refine zZ ?_ _)); refine blk_put (cs := #[.int .i64 0, .int .i64 0, .string (⟨#[]⟩ : ByteArray)]) ?_ 1 _ rfl; (with_reducible repeat (first | refine zX ?_ _ | refine zY ?_ | refine zZ ?_ _)); refine blk_put (cs := #[.int .i64 0, .int .i64 0, .string (⟨#[]⟩ : ByteArray)]) ?_ 0 _ rfl; (with_reducible repeat (first | refine zX ?_ _ | refine zY ?_ | refine zZ ?_ _)); exact BK225.out) Try.underlying27 rfl (by kernel_rfl)) rfl ?_
                  exact ⟨by first | rfl | (simp [errW_none, errW_some] <;> rfl) | (simp [*, errW_none, errW_some] <;> rfl), by repeat (first | (with_reducible first | exact HB.out | apply zU | apply zV | apply zW | refine zH ?_ GE225.out | refine zH ?_ GE227.out) | exact HB.out)⟩
                ·
                 rw [if_neg c151] at H
                 exact absurd H (by simp)
               ·
                rw [if_neg c150] at H
                exact absurd H (by simp)
            ·
             rw [if_neg c134] at H
             exact absurd H (by simp)
           ·
            replace c133 := Bool.eq_false_iff.mpr c133
            subst c133
            have H1 : ((spec_ValueBytes.f kj126 (wrap64 (rd l0 0)) 0 (⟨#[]⟩ : ByteArray)).bind fun t246 => (if (t246.length : Int) = 0 then (some (0, 0, (⟨#[]⟩ : ByteArray), 0)) else (if (t246.length : Int) > (l0.length : Int) then (some (0, 0, (⟨#[]⟩ : ByteArray), 0)) else (if 0 ≤ (t246.length : Int) then (if (t246.length : Int) ≤ (l0.length : Int) then (if (strOfNums t246).toList = (strOfNums (l0.take ((t246.length : Int) : Int).toNat)).toList then (some ((wrap64 (rd l0 0)), 0, (⟨#[]⟩ : ByteArray), (t246.length : Int))) else (some (0, 0, (⟨#[]⟩ : ByteArray), 0))) else (none)) else (none))))) = some (r1, r2, r3, r4) := by rw [if_neg (show ¬ (false = true) by decide)] at H; exact H
            clear H
            have H := H1
            clear H1
            replace H := Option.bind_eq_some_iff.mp H
            obtain ⟨t246, A1740, H⟩ := H
            replace H : (if (t246.length : Int) = 0 then (some (0, 0, (⟨#[]⟩ : ByteArray), 0)) else (if (t246.length : Int) > (l0.length : Int) then (some (0, 0, (⟨#[]⟩ : ByteArray), 0)) else (if 0 ≤ (t246.length : Int) then (if (t246.length : Int) ≤ (l0.length : Int) then (if (strOfNums t246).toList = (strOfNums (l0.take ((t246.length : Int) : Int).toNat)).toList then (some ((wrap64 (rd l0 0)), 0, (⟨#[]⟩ : ByteArray), (t246.length : Int))) else (some (0, 0, (⟨#[]⟩ : ByteArray), 0))) else (none)) else (none)))) = some (r1, r2, r3, r4) := H
            have A174 := zM A1740
            clear A1740
            by_cases c175 : (t246.length : Int) = 0
            ·
             rw [if_pos c175] at H
             have c175b0 : ((t246.length : Int) == 0) = true := beq_iff_eq.mpr c175
             have c175b1 : ((t246.length : Int) != 0) = false := bne_eq_false_iff_eq.mpr c175
             clear c175
             simp only [Option.some.injEq, Prod.mk.injEq] at H
             obtain ⟨rfl, rfl, rfl, rfl⟩ := H
             have hnb176 := NB227_225.out
             have hnc176 := NB225_227.out
             have hcz177_0 : wc.cell? ⟨gb227, 0, none⟩ = some (.int .i64 (wrap64 (rd l0 0))) := (zK BK227.out 0).trans rfl
             have hcz177_1 : wc.cell? ⟨gb227, 1, none⟩ = some (.int .i64 0) := (zK BK227.out 1).trans rfl
             have hcz177_2 : wc.cell? ⟨gb227, 2, none⟩ = some (.string (⟨#[]⟩ : ByteArray)) := (zK BK227.out 2).trans rfl
             have hfz177_0 := zF BK227.out 0
             have hfz177_1 := zF BK227.out 1
             have hfz177_2 := zF BK227.out 2
             try go_wp2_with (first | ((with_reducible refine gate_callee (f := 16) rfl ?_); refine goesL_ (some 79) rfl rfl Try.func16 (by kernel_rfl) rfl #[.agg #[.int .i64 (wrap64 (rd l0 0)), .int .i64 0, .string (⟨#[]⟩ : ByteArray)]] rfl (by (try simp only [List.map_toArray, List.map_cons, List.map_nil]); first | done | rfl | (simp only [List.length_drop, List.length_take]; rfl)) ?_; (with_reducible refine (spec_ValueBytes.calls kj126 (wrap64 (rd l0 0)) 0 (⟨#[]⟩ : ByteArray) t246 _ A174.out).mono ?_); rintro e w178 ⟨v247, rfl, ho0, hb⟩; refine ⟨_, rfl, ?_⟩; have n0_ := zM (Kd.R_lower ho0 (zI (by repeat (first | (with_reducible first | exact HB.out | apply zU | apply zV | apply zW | refine zH ?_ GE225.out | refine zH ?_ GE227.out) | exact HB.out)))); have n1_ := zM (zJ (g := gb225) (o := .cells #[.int .i64 0, .int .i64 0, .string (⟨#[]⟩ : ByteArray)] 27 (0, 0)) (by (with_reducible repeat (first | refine zX ?_ _ | refine zY ?_ | refine zZ ?_ _)); exact BK225.out) hb); have n2_ := zM (zJ (g := gb227) (o := .cells #[.int .i64 (wrap64 (rd l0 0)), .int .i64 0, .string (⟨#[]⟩ : ByteArray)] 27 (0, 0)) (by (with_reducible repeat (first | refine zX ?_ _ | refine zY ?_ | refine zZ ?_ _)); exact BK227.out) hb); have n3_ := zM (zG (by repeat (first | (with_reducible first | exact HB.out | apply zU | apply zV | apply zW | refine zH ?_ GE225.out | refine zH ?_ GE227.out) | exact HB.out)) hb); clear BK225; clear BK227; clear HB; have HO248 := n0_; have BK225 := n1_; have BK227 := n2_; have HB := n3_; clear n0_ n1_ n2_ n3_; (try clear hb); (try clear hb2); (try clear hk); (try clear hi); (try clear ho0)))
             have n0_ := zM (zT HO248.out)
             have n1_ := zM (zY BK225.out)
             have n2_ := zM (zY BK227.out)
             have n3_ := zM (zW HB.out)
             clear HO248
             clear BK225
             clear BK227
             clear HB
             have HO248 := n0_
             have BK225 := n1_
             have BK227 := n2_
             have HB := n3_
             clear n0_ n1_ n2_ n3_
             obtain ⟨Ao180, co180, eo180⟩ := Kd.R_slice HO248.out
             (first | subst eo180 | (injection eo180 with f1_ f2_ f3_; have f4_ := f1_.symm; have f5_ := f3_.symm; clear f1_ f2_ f3_; subst f4_; subst f5_))
             refine start_ (n := 20) (S := fun w' => True) (ds := []) #[ff, ff, ff, ff, ff, ff, ff, ff, ff, ff, ff, ff, ff, ff, ff, ff, ff, ff, ff, ff] (by kernel_rfl) rfl rfl trivial (fun hHeld => ?_); refine with_tabW spec_ValueFrom.tab11 spec_ValueFrom.bits11 (fun HT_ HW_ => ?_)
             generalize w178.drew = w179 at HO248 BK225 BK227 HB hHeld ⊢
             refine pure_ (i := 0) (N := some 80) (v := ?_) (a' := ?_) #[tt, ff, ff, ff, ff, ff, ff, ff, ff, ff, ff, ff, ff, ff, ff, ff, ff, ff, ff, ff] rfl rfl (any_of HT_.out (by kernel_rfl)) (fun _ _ _ h => h) (Or.inl ⟨by rfl, ?_⟩) ?_ ?_
             rotate_left
             ·
              intro w'
              go_simp
              with_reducible rfl
             rotate_left
             ·
              simp only [Act.put, zA, zB, zC, i64_w, i32_w]
              rfl
             refine pure_ (i := 1) (N := some 81) (v := ?_) (a' := ?_) #[tt, tt, ff, ff, ff, ff, ff, ff, ff, ff, ff, ff, ff, ff, ff, ff, ff, ff, ff, ff] rfl rfl (any_of HT_.out (by kernel_rfl)) (fun _ _ _ h => h) (Or.inl ⟨by rfl, ?_⟩) ?_ ?_
             rotate_left
             ·
              intro w'
              go_simp
              with_reducible rfl
             rotate_left
             ·
              simp only [Act.put, zA, zB, zC, i64_w, i32_w]
              rfl
             refine pure_ (i := 2) (N := some 82) (v := ?_) (a' := ?_) #[tt, tt, tt, ff, ff, ff, ff, ff, ff, ff, ff, ff, ff, ff, ff, ff, ff, ff, ff, ff] rfl rfl (any_of HT_.out (by kernel_rfl)) (fun _ _ _ h => h) (Or.inl ⟨by rfl, ?_⟩) ?_ ?_
             rotate_left
             ·
              intro w'
              go_simp
              with_reducible rfl
             rotate_left
             ·
              simp only [Act.put, zA, zB, zC, i64_w, i32_w]
              rfl
             refine pure_ (i := 3) (N := some 83) (v := ?_) (a' := ?_) #[tt, tt, tt, tt, ff, ff, ff, ff, ff, ff, ff, ff, ff, ff, ff, ff, ff, ff, ff, ff] rfl rfl (any_of HT_.out (by kernel_rfl)) (fun _ _ _ h => h) (Or.inl ⟨by rfl, ?_⟩) ?_ ?_
             rotate_left
             ·
              intro w'
              go_simp
              with_reducible rfl
             rotate_left
             ·
              simp only [Act.put, zA, zB, zC, i64_w, i32_w]
              rfl
             refine pure_ (i := 4) (N := some 84) (v := undef) (a' := ?_) #[tt, tt, tt, tt, tt, ff, ff, ff, ff, ff, ff, ff, ff, ff, ff, ff, ff, ff, ff, ff] rfl rfl (any_of HT_.out (by kernel_rfl)) (fun _ _ _ h => h) (Or.inr ⟨by rfl, rfl⟩) ?_ ?_
             rotate_left
             ·
              simp only [Act.put, zA, zB, zC, i64_w, i32_w]
              rfl
             refine pure_ (i := 5) (N := some 85) (v := undef) (a' := ?_) #[tt, tt, tt, tt, tt, tt, ff, ff, ff, ff, ff, ff, ff, ff, ff, ff, ff, ff, ff, ff] rfl rfl (any_of HT_.out (by kernel_rfl)) (fun _ _ _ h => h) (Or.inr ⟨by rfl, rfl⟩) ?_ ?_
             rotate_left
             ·
              simp only [Act.put, zA, zB, zC, i64_w, i32_w]
              rfl
             refine pure_ (i := 6) (N := some 86) (v := undef) (a' := ?_) #[tt, tt, tt, tt, tt, tt, tt, ff, ff, ff, ff, ff, ff, ff, ff, ff, ff, ff, ff, ff] rfl rfl (any_of HT_.out (by kernel_rfl)) (fun _ _ _ h => h) (Or.inr ⟨by rfl, rfl⟩) ?_ ?_
             rotate_left
             ·
              simp only [Act.put, zA, zB, zC, i64_w, i32_w]
              rfl
             refine pure_ (i := 7) (N := some 87) (v := undef) (a' := ?_) #[tt, tt, tt, tt, tt, tt, tt, tt, ff, ff, ff, ff, ff, ff, ff, ff, ff, ff, ff, ff] rfl rfl (any_of HT_.out (by kernel_rfl)) (fun _ _ _ h => h) (Or.inr ⟨by rfl, rfl⟩) ?_ ?_
             rotate_left
             ·
              simp only [Act.put, zA, zB, zC, i64_w, i32_w]
              rfl
             refine pure_ (i := 8) (N := some 88) (v := undef) (a' := ?_) #[tt, tt, tt, tt, tt, tt, tt, tt, tt, ff, ff, ff, ff, ff, ff, ff, ff, ff, ff, ff] rfl rfl (any_of HT_.out (by kernel_rfl)) (fun _ _ _ h => h) (Or.inr ⟨by rfl, rfl⟩) ?_ ?_
             rotate_left
             ·
              simp only [Act.put, zA, zB, zC, i64_w, i32_w]
              rfl
             refine pure_ (i := 9) (N := some 89) (v := ?_) (a' := ?_) #[tt, tt, tt, tt, tt, tt, tt, tt, tt, tt, ff, ff, ff, ff, ff, ff, ff, ff, ff, ff] rfl rfl (any_of HT_.out (by kernel_rfl)) (fun _ _ _ h => h) (Or.inl ⟨by rfl, ?_⟩) ?_ ?_
             rotate_left
             ·
              intro w'
              go_simp
              with_reducible rfl
             rotate_left
             ·
              simp only [Act.put, zA, zB, zC, i64_w, i32_w]
              rfl
             refine pure_ (i := 10) (N := some 90) (v := ?_) (a' := ?_) #[tt, tt, tt, tt, tt, tt, tt, tt, tt, tt, tt, ff, ff, ff, ff, ff, ff, ff, ff, ff] rfl rfl (any_of HT_.out (by kernel_rfl)) (fun _ _ _ h => h) (Or.inl ⟨by rfl, ?_⟩) ?_ ?_
             rotate_left
             ·
              intro w'
              go_simp
              with_reducible rfl
             rotate_left
             ·
              simp only [Act.put, zA, zB, zC, i64_w, i32_w]
              rfl
             refine pure_ (i := 11) (N := some 91) (v := undef) (a' := ?_) #[tt, tt, tt, tt, tt, tt, tt, tt, tt, tt, tt, tt, ff, ff, ff, ff, ff, ff, ff, ff] rfl rfl (any_of HT_.out (by kernel_rfl)) (fun _ _ _ h => h) (Or.inr ⟨by rfl, rfl⟩) ?_ ?_
             rotate_left
             ·
              simp only [Act.put, zA, zB, zC, i64_w, i32_w]
              rfl
             refine pure_ (i := 12) (N := some 92) (v := undef) (a' := ?_) #[tt, tt, tt, tt, tt, tt, tt, tt, tt, tt, tt, tt, tt, ff, ff, ff, ff, ff, ff, ff] rfl rfl (any_of HT_.out (by kernel_rfl)) (fun _ _ _ h => h) (Or.inr ⟨by rfl, rfl⟩) ?_ ?_
             rotate_left
             ·
              simp only [Act.put, zA, zB, zC, i64_w, i32_w]
              rfl
             refine pure_ (i := 13) (N := some 93) (v := undef) (a' := ?_) #[tt, tt, tt, tt, tt, tt, tt, tt, tt, tt, tt, tt, tt, tt, ff, ff, ff, ff, ff, ff] rfl rfl (any_of HT_.out (by kernel_rfl)) (fun _ _ _ h => h) (Or.inr ⟨by rfl, rfl⟩) ?_ ?_
             rotate_left
             ·
              simp only [Act.put, zA, zB, zC, i64_w, i32_w]
              rfl
             refine pure_ (i := 14) (N := some 94) (v := undef) (a' := ?_) #[tt, tt, tt, tt, tt, tt, tt, tt, tt, tt, tt, tt, tt, tt, tt, ff, ff, ff, ff, ff] rfl rfl (any_of HT_.out (by kernel_rfl)) (fun _ _ _ h => h) (Or.inr ⟨by rfl, rfl⟩) ?_ ?_
             rotate_left
             ·
              simp only [Act.put, zA, zB, zC, i64_w, i32_w]
              rfl
             refine pure_ (i := 15) (N := some 95) (v := undef) (a' := ?_) #[tt, tt, tt, tt, tt, tt, tt, tt, tt, tt, tt, tt, tt, tt, tt, tt, ff, ff, ff, ff] rfl rfl (any_of HT_.out (by kernel_rfl)) (fun _ _ _ h => h) (Or.inr ⟨by rfl, rfl⟩) ?_ ?_
             rotate_left
             ·
              simp only [Act.put, zA, zB, zC, i64_w, i32_w]
              rfl
             refine pure_ (i := 16) (N := some 96) (v := undef) (a' := ?_) #[tt, tt, tt, tt, tt, tt, tt, tt, tt, tt, tt, tt, tt, tt, tt, tt, tt, ff, ff, ff] rfl rfl (any_of HT_.out (by kernel_rfl)) (fun _ _ _ h => h) (Or.inr ⟨by rfl, rfl⟩) ?_ ?_
             rotate_left
             ·
              simp only [Act.put, zA, zB, zC, i64_w, i32_w]
              rfl
             refine pure_ (i := 17) (N := some 97) (v := undef) (a' := ?_) #[tt, tt, tt, tt, tt, tt, tt, tt, tt, tt, tt, tt, tt, tt, tt, tt, tt, tt, ff, ff] rfl rfl (any_of HT_.out (by kernel_rfl)) (fun _ _ _ h => h) (Or.inr ⟨by rfl, rfl⟩) ?_ ?_
             rotate_left
             ·
              simp only [Act.put, zA, zB, zC, i64_w, i32_w]
              rfl
             refine pure_ (i := 18) (N := some 98) (v := undef) (a' := ?_) #[tt, tt, tt, tt, tt, tt, tt, tt, tt, tt, tt, tt, tt, tt, tt, tt, tt, tt, tt, ff] rfl rfl (any_of HT_.out (by kernel_rfl)) (fun _ _ _ h => h) (Or.inr ⟨by rfl, rfl⟩) ?_ ?_
             rotate_left
             ·
              simp only [Act.put, zA, zB, zC, i64_w, i32_w]
              rfl
             refine pure_ (i := 19) (N := some 99) (v := ?_) (a' := ?_) #[tt, tt, tt, tt, tt, tt, tt, tt, tt, tt, tt, tt, tt, tt, tt, tt, tt, tt, tt, tt] rfl rfl (any_of HT_.out (by kernel_rfl)) (fun _ _ _ h => h) (Or.inl ⟨by rfl, ?_⟩) ?_ ?_
             rotate_left
             ·
              intro w'
              go_simp
              with_reducible rfl
             rotate_left
             ·
              simp only [Act.put, zA, zB, zC, i64_w, i32_w]
              rfl
             refine done_ (done_of HT_.out (by kernel_rfl)) ?_
             have hcz181_0 : w179.cell? ⟨gb225, 0, none⟩ = some (.int .i64 0) := (zK BK225.out 0).trans rfl
             have hcz181_1 : w179.cell? ⟨gb225, 1, none⟩ = some (.int .i64 0) := (zK BK225.out 1).trans rfl
             have hcz181_2 : w179.cell? ⟨gb225, 2, none⟩ = some (.string (⟨#[]⟩ : ByteArray)) := (zK BK225.out 2).trans rfl
             have hfz181_0 := zF BK225.out 0
             have hfz181_1 := zF BK225.out 1
             have hfz181_2 := zF BK225.out 2
             try go_wp2
             refine bodyPost_ret (results_ct rfl _ _ gb225 27 #[.int .i64 0, .int .i64 0, .string (⟨#[]⟩ : ByteArray)] (0, 0) _ rfl (by (with_reducible repeat (first | refine zX ?_ _ | refine zY ?_ | refine zZ ?_ _)); refine blk_put (cs := #[.int .i64 0, .int .i64 0, .string (⟨#[]⟩ : ByteArray)]) ?_ 2 _ rfl; (with_reducible repeat (first | refine zX ?_ _ | refine zY ?_ | refine zZ ?_ _)); refine blk_put (cs := #[.int .i64 0, .int .i64 0, .string (⟨#[]⟩ : ByteArray)]) ?_ 1 _ rfl; (with_reducible repeat (first | refine zX ?_ _ | refine zY ?_ | refine zZ ?_ _)); refine blk_put (cs := #[.int .i64 0, .int .i64 0, .string (⟨#[]⟩ : ByteArray)]) ?_ 0 _ rfl; (with_reducible repeat (first | refine zX ?_ _ | refine zY ?_ | refine zZ ?_ _)); exact BK225.out) Try.underlying27 rfl (by kernel_rfl)) rfl ?_
             exact ⟨by first | rfl | (simp [errW_none, errW_some] <;> rfl) | (simp [*, errW_none, errW_some] <;> rfl), by repeat (first | (with_reducible first | exact HB.out | apply zU | apply zV | apply zW | refine zH ?_ GE225.out | refine zH ?_ GE227.out) | exact HB.out)⟩
            ·
             rw [if_neg c175] at H
             have c175b0 : ((t246.length : Int) == 0) = false := beq_eq_false_iff_ne.mpr c175
             have c175b1 : ((t246.length : Int) != 0) = true := bne_iff_ne.mpr c175
             have c175b2 : ¬ (t246 = []) := fun h_ => c175 (by rw [h_]; rfl)
             by_cases c182 : (t246.length : Int) > (l0.length : Int)
             ·
              rw [if_pos c182] at H
              have c182b0 : decide ((l0.length : Int) < (t246.length : Int)) = true := decide_eq_true c182
              have c182b1 : decide (l0.length < t246.length) = true := decide_eq_true (Int.ofNat_lt.mp c182)
              clear c182
              simp only [Option.some.injEq, Prod.mk.injEq] at H
              obtain ⟨rfl, rfl, rfl, rfl⟩ := H
              have hnb183 := NB227_225.out
              have hnc183 := NB225_227.out
              have hcz184_0 : wc.cell? ⟨gb227, 0, none⟩ = some (.int .i64 (wrap64 (rd l0 0))) := (zK BK227.out 0).trans rfl
              have hcz184_1 : wc.cell? ⟨gb227, 1, none⟩ = some (.int .i64 0) := (zK BK227.out 1).trans rfl
              have hcz184_2 : wc.cell? ⟨gb227, 2, none⟩ = some (.string (⟨#[]⟩ : ByteArray)) := (zK BK227.out 2).trans rfl
              have hfz184_0 := zF BK227.out 0
              have hfz184_1 := zF BK227.out 1
              have hfz184_2 := zF BK227.out 2
              try go_wp2_with (first | ((with_reducible refine gate_callee (f := 16) rfl ?_); refine goesL_ (some 79) rfl rfl Try.func16 (by kernel_rfl) rfl #[.agg #[.int .i64 (wrap64 (rd l0 0)), .int .i64 0, .string (⟨#[]⟩ : ByteArray)]] rfl (by (try simp only [List.map_toArray, List.map_cons, List.map_nil]); first | done | rfl | (simp only [List.length_drop, List.length_take]; rfl)) ?_; (with_reducible refine (spec_ValueBytes.calls kj126 (wrap64 (rd l0 0)) 0 (⟨#[]⟩ : ByteArray) t246 _ A174.out).mono ?_); rintro e w185 ⟨v247, rfl, ho0, hb⟩; refine ⟨_, rfl, ?_⟩; have n0_ := zM (Kd.R_lower ho0 (zI (by repeat (first | (with_reducible first | exact HB.out | apply zU | apply zV | apply zW | refine zH ?_ GE225.out | refine zH ?_ GE227.out) | exact HB.out)))); have n1_ := zM (zJ (g := gb225) (o := .cells #[.int .i64 0, .int .i64 0, .string (⟨#[]⟩ : ByteArray)] 27 (0, 0)) (by (with_reducible repeat (first | refine zX ?_ _ | refine zY ?_ | refine zZ ?_ _)); exact BK225.out) hb); have n2_ := zM (zJ (g := gb227) (o := .cells #[.int .i64 (wrap64 (rd l0 0)), .int .i64 0, .string (⟨#[]⟩ : ByteArray)] 27 (0, 0)) (by (with_reducible repeat (first | refine zX ?_ _ | refine zY ?_ | refine zZ ?_ _)); exact BK227.out) hb); have n3_ := zM (zG (by repeat (first | (with_reducible first | exact HB.out | apply zU | apply zV | apply zW | refine zH ?_ GE225.out | refine zH ?_ GE227.out) | exact HB.out)) hb); clear BK225; clear BK227; clear HB; have HO248 := n0_; have BK225 := n1_; have BK227 := n2_; have HB := n3_; clear n0_ n1_ n2_ n3_; (try clear hb); (try clear hb2); (try clear hk); (try clear hi); (try clear ho0)))
              have n0_ := zM (zT HO248.out)
              have n1_ := zM (zY BK225.out)
              have n2_ := zM (zY BK227.out)
              have n3_ := zM (zW HB.out)
              clear HO248
              clear BK225
              clear BK227
              clear HB
              have HO248 := n0_
              have BK225 := n1_
              have BK227 := n2_
              have HB := n3_
              clear n0_ n1_ n2_ n3_
              obtain ⟨Ao187, co187, eo187⟩ := Kd.R_slice HO248.out
              (first | subst eo187 | (injection eo187 with f1_ f2_ f3_; have f4_ := f1_.symm; have f5_ := f3_.symm; clear f1_ f2_ f3_; subst f4_; subst f5_))
              refine start_ (n := 20) (S := fun w' => True) (ds := []) #[ff, ff, ff, ff, ff, ff, ff, ff, ff, ff, ff, ff, ff, ff, ff, ff, ff, ff, ff, ff] (by kernel_rfl) rfl rfl trivial (fun hHeld => ?_); refine with_tabW spec_ValueFrom.tab11 spec_ValueFrom.bits11 (fun HT_ HW_ => ?_)
              generalize w185.drew = w186 at HO248 BK225 BK227 HB hHeld ⊢
              refine pure_ (i := 0) (N := some 80) (v := ?_) (a' := ?_) #[tt, ff, ff, ff, ff, ff, ff, ff, ff, ff, ff, ff, ff, ff, ff, ff, ff, ff, ff, ff] rfl rfl (any_of HT_.out (by kernel_rfl)) (fun _ _ _ h => h) (Or.inl ⟨by rfl, ?_⟩) ?_ ?_
              rotate_left
              ·
               intro w'
               go_simp
               with_reducible rfl
              rotate_left
              ·
               simp only [Act.put, zA, zB, zC, i64_w, i32_w]
               rfl
              refine pure_ (i := 1) (N := some 81) (v := ?_) (a' := ?_) #[tt, tt, ff, ff, ff, ff, ff, ff, ff, ff, ff, ff, ff, ff, ff, ff, ff, ff, ff, ff] rfl rfl (any_of HT_.out (by kernel_rfl)) (fun _ _ _ h => h) (Or.inl ⟨by rfl, ?_⟩) ?_ ?_
              rotate_left
              ·
               intro w'
               go_simp
               with_reducible rfl
              rotate_left
              ·
               simp only [Act.put, zA, zB, zC, i64_w, i32_w]
               rfl
              refine pure_ (i := 2) (N := some 82) (v := ?_) (a' := ?_) #[tt, tt, tt, ff, ff, ff, ff, ff, ff, ff, ff, ff, ff, ff, ff, ff, ff, ff, ff, ff] rfl rfl (any_of HT_.out (by kernel_rfl)) (fun _ _ _ h => h) (Or.inl ⟨by rfl, ?_⟩) ?_ ?_
              rotate_left
              ·
               intro w'
               go_simp
               with_reducible rfl
              rotate_left
              ·
               simp only [Act.put, zA, zB, zC, i64_w, i32_w]
               rfl
              refine pure_ (i := 3) (N := some 83) (v := ?_) (a' := ?_) #[tt, tt, tt, tt, ff, ff, ff, ff, ff, ff, ff, ff, ff, ff, ff, ff, ff, ff, ff, ff] rfl rfl (any_of HT_.out (by kernel_rfl)) (fun _ _ _ h => h) (Or.inl ⟨by rfl, ?_⟩) ?_ ?_
              rotate_left
              ·
               intro w'
               go_simp
               with_reducible rfl
              rotate_left
              ·
               simp only [Act.put, zA, zB, zC, i64_w, i32_w]
               rfl
              refine pure_ (i := 4) (N := some 84) (v := ?_) (a' := ?_) #[tt, tt, tt, tt, tt, ff, ff, ff, ff, ff, ff, ff, ff, ff, ff, ff, ff, ff, ff, ff] rfl rfl (any_of HT_.out (by kernel_rfl)) (fun _ _ _ h => h) (Or.inl ⟨by rfl, ?_⟩) ?_ ?_
              rotate_left
              ·
               intro w'
               go_simp
               with_reducible rfl
              rotate_left
              ·
               simp only [Act.put, zA, zB, zC, i64_w, i32_w]
               rfl
              refine pure_ (i := 5) (N := some 85) (v := ?_) (a' := ?_) #[tt, tt, tt, tt, tt, tt, ff, ff, ff, ff, ff, ff, ff, ff, ff, ff, ff, ff, ff, ff] rfl rfl (any_of HT_.out (by kernel_rfl)) (fun _ _ _ h => h) (Or.inl ⟨by rfl, ?_⟩) ?_ ?_
              rotate_left
              ·
               intro w'
               go_simp
               with_reducible rfl
              rotate_left
              ·
               simp only [Act.put, zA, zB, zC, i64_w, i32_w]
               rfl
              refine pure_ (i := 6) (N := some 86) (v := ?_) (a' := ?_) #[tt, tt, tt, tt, tt, tt, tt, ff, ff, ff, ff, ff, ff, ff, ff, ff, ff, ff, ff, ff] rfl rfl (any_of HT_.out (by kernel_rfl)) (fun _ _ _ h => h) (Or.inl ⟨by rfl, ?_⟩) ?_ ?_
              rotate_left
              ·
               intro w'
               go_simp
               with_reducible rfl
              rotate_left
              ·
               simp only [Act.put, zA, zB, zC, i64_w, i32_w]
               rfl
              refine pure_ (i := 7) (N := some 87) (v := ?_) (a' := ?_) #[tt, tt, tt, tt, tt, tt, tt, tt, ff, ff, ff, ff, ff, ff, ff, ff, ff, ff, ff, ff] rfl rfl (any_of HT_.out (by kernel_rfl)) (fun _ _ _ h => h) (Or.inl ⟨by rfl, ?_⟩) ?_ ?_
              rotate_left
              ·
               intro w'
               go_simp
               with_reducible rfl
              rotate_left
              ·
               simp only [Act.put, zA, zB, zC, i64_w, i32_w]
               rfl
              refine pure_ (i := 8) (N := some 88) (v := ?_) (a' := ?_) #[tt, tt, tt, tt, tt, tt, tt, tt, tt, ff, ff, ff, ff, ff, ff, ff, ff, ff, ff, ff] rfl rfl (any_of HT_.out (by kernel_rfl)) (fun _ _ _ h => h) (Or.inl ⟨by rfl, ?_⟩) ?_ ?_
              rotate_left
              ·
               intro w'
               go_simp
               with_reducible rfl
              rotate_left
              ·
               simp only [Act.put, zA, zB, zC, i64_w, i32_w]
               rfl
              refine pure_ (i := 9) (N := some 89) (v := ?_) (a' := ?_) #[tt, tt, tt, tt, tt, tt, tt, tt, tt, tt, ff, ff, ff, ff, ff, ff, ff, ff, ff, ff] rfl rfl (any_of HT_.out (by kernel_rfl)) (fun _ _ _ h => h) (Or.inl ⟨by rfl, ?_⟩) ?_ ?_
              rotate_left
              ·
               intro w'
               go_simp
               with_reducible rfl
              rotate_left
              ·
               simp only [Act.put, zA, zB, zC, i64_w, i32_w]
               rfl
              refine pure_ (i := 10) (N := some 90) (v := ?_) (a' := ?_) #[tt, tt, tt, tt, tt, tt, tt, tt, tt, tt, tt, ff, ff, ff, ff, ff, ff, ff, ff, ff] rfl rfl (any_of HT_.out (by kernel_rfl)) (fun _ _ _ h => h) (Or.inl ⟨by rfl, ?_⟩) ?_ ?_
              rotate_left
              ·
               intro w'
               go_simp
               with_reducible rfl
              rotate_left
              ·
               simp only [Act.put, zA, zB, zC, i64_w, i32_w]
               rfl
              refine pure_ (i := 11) (N := some 91) (v := undef) (a' := ?_) #[tt, tt, tt, tt, tt, tt, tt, tt, tt, tt, tt, tt, ff, ff, ff, ff, ff, ff, ff, ff] rfl rfl (any_of HT_.out (by kernel_rfl)) (fun _ _ _ h => h) (Or.inr ⟨by rfl, rfl⟩) ?_ ?_
              rotate_left
              ·
               simp only [Act.put, zA, zB, zC, i64_w, i32_w]
               rfl
              refine pure_ (i := 12) (N := some 92) (v := undef) (a' := ?_) #[tt, tt, tt, tt, tt, tt, tt, tt, tt, tt, tt, tt, tt, ff, ff, ff, ff, ff, ff, ff] rfl rfl (any_of HT_.out (by kernel_rfl)) (fun _ _ _ h => h) (Or.inr ⟨by rfl, rfl⟩) ?_ ?_
              rotate_left
              ·
               simp only [Act.put, zA, zB, zC, i64_w, i32_w]
               rfl
              refine pure_ (i := 13) (N := some 93) (v := undef) (a' := ?_) #[tt, tt, tt, tt, tt, tt, tt, tt, tt, tt, tt, tt, tt, tt, ff, ff, ff, ff, ff, ff] rfl rfl (any_of HT_.out (by kernel_rfl)) (fun _ _ _ h => h) (Or.inr ⟨by rfl, rfl⟩) ?_ ?_
              rotate_left
              ·
               simp only [Act.put, zA, zB, zC, i64_w, i32_w]
               rfl
              refine pure_ (i := 14) (N := some 94) (v := undef) (a' := ?_) #[tt, tt, tt, tt, tt, tt, tt, tt, tt, tt, tt, tt, tt, tt, tt, ff, ff, ff, ff, ff] rfl rfl (any_of HT_.out (by kernel_rfl)) (fun _ _ _ h => h) (Or.inr ⟨by rfl, rfl⟩) ?_ ?_
              rotate_left
              ·
               simp only [Act.put, zA, zB, zC, i64_w, i32_w]
               rfl
              refine pure_ (i := 15) (N := some 95) (v := undef) (a' := ?_) #[tt, tt, tt, tt, tt, tt, tt, tt, tt, tt, tt, tt, tt, tt, tt, tt, ff, ff, ff, ff] rfl rfl (any_of HT_.out (by kernel_rfl)) (fun _ _ _ h => h) (Or.inr ⟨by rfl, rfl⟩) ?_ ?_
              rotate_left
              ·
               simp only [Act.put, zA, zB, zC, i64_w, i32_w]
               rfl
              refine pure_ (i := 16) (N := some 96) (v := undef) (a' := ?_) #[tt, tt, tt, tt, tt, tt, tt, tt, tt, tt, tt, tt, tt, tt, tt, tt, tt, ff, ff, ff] rfl rfl (any_of HT_.out (by kernel_rfl)) (fun _ _ _ h => h) (Or.inr ⟨by rfl, rfl⟩) ?_ ?_
              rotate_left
              ·
               simp only [Act.put, zA, zB, zC, i64_w, i32_w]
               rfl
              refine pure_ (i := 17) (N := some 97) (v := undef) (a' := ?_) #[tt, tt, tt, tt, tt, tt, tt, tt, tt, tt, tt, tt, tt, tt, tt, tt, tt, tt, ff, ff] rfl rfl (any_of HT_.out (by kernel_rfl)) (fun _ _ _ h => h) (Or.inr ⟨by rfl, rfl⟩) ?_ ?_
              rotate_left
              ·
               simp only [Act.put, zA, zB, zC, i64_w, i32_w]
               rfl
              refine pure_ (i := 18) (N := some 98) (v := undef) (a' := ?_) #[tt, tt, tt, tt, tt, tt, tt, tt, tt, tt, tt, tt, tt, tt, tt, tt, tt, tt, tt, ff] rfl rfl (any_of HT_.out (by kernel_rfl)) (fun _ _ _ h => h) (Or.inr ⟨by rfl, rfl⟩) ?_ ?_
              rotate_left
              ·
               simp only [Act.put, zA, zB, zC, i64_w, i32_w]
               rfl
              refine pure_ (i := 19) (N := some 99) (v := ?_) (a' := ?_) #[tt, tt, tt, tt, tt, tt, tt, tt, tt, tt, tt, tt, tt, tt, tt, tt, tt, tt, tt, tt] rfl rfl (any_of HT_.out (by kernel_rfl)) (fun _ _ _ h => h) (Or.inl ⟨by rfl, ?_⟩) ?_ ?_
              rotate_left
              ·
               intro w'
               go_simp
               with_reducible rfl
              rotate_left
              ·
               simp only [Act.put, zA, zB, zC, i64_w, i32_w]
               rfl
              refine done_ (done_of HT_.out (by kernel_rfl)) ?_
              have hcz188_0 : w186.cell? ⟨gb225, 0, none⟩ = some (.int .i64 0) := (zK BK225.out 0).trans rfl
              have hcz188_1 : w186.cell? ⟨gb225, 1, none⟩ = some (.int .i64 0) := (zK BK225.out 1).trans rfl
              have hcz188_2 : w186.cell? ⟨gb225, 2, none⟩ = some (.string (⟨#[]⟩ : ByteArray)) := (zK BK225.out 2).trans rfl
              have hfz188_0 := zF BK225.out 0
              have hfz188_1 := zF BK225.out 1
              have hfz188_2 := zF BK225.out 2
              try go_wp2
              refine bodyPost_ret (results_ct rfl _ _ gb225 27 #[.int .i64 0, .int .i64 0, .string (⟨#[]⟩ : ByteArray)] (0, 0) _ rfl (by (with_reducible repeat (first | refine zX ?_ _ | refine zY ?_ | refine zZ ?_ _)); refine blk_put (cs := #[.int .i64 0, .int .i64 0, .string (⟨#[]⟩ : ByteArray)]) ?_ 2 _ rfl; (with_reducible repeat (first | refine zX ?_ _ | refine zY ?_ | refine zZ ?_ _)); refine blk_put (cs := #[.int .i64 0, .int .i64 0, .string (⟨#[]⟩ : ByteArray)]) ?_ 1 _ rfl; (with_reducible repeat (first | refine zX ?_ _ | refine zY ?_ | refine zZ ?_ _)); refine blk_put (cs := #[.int .i64 0, .int .i64 0, .string (⟨#[]⟩ : ByteArray)]) ?_ 0 _ rfl; (with_reducible repeat (first | refine zX ?_ _ | refine zY ?_ | refine zZ ?_ _)); exact BK225.out) Try.underlying27 rfl (by kernel_rfl)) rfl ?_
              exact ⟨by first | rfl | (simp [errW_none, errW_some] <;> rfl) | (simp [*, errW_none, errW_some] <;> rfl), by repeat (first | (with_reducible first | exact HB.out | apply zU | apply zV | apply zW | refine zH ?_ GE225.out | refine zH ?_ GE227.out) | exact HB.out)⟩
             ·
              rw [if_neg c182] at H
              have c182b0 : decide ((l0.length : Int) < (t246.length : Int)) = false := decide_eq_false c182
              have c182b1 : decide (l0.length < t246.length) = false := decide_eq_false (fun h => c182 (Int.ofNat_lt.mpr h))
              clear c182
              by_cases c189 : 0 ≤ (t246.length : Int)
              ·
               rw [if_pos c189] at H
               have c189b0 := eq_true c189
               have c189b1 : decide (0 ≤ (t246.length : Int)) = true := decide_eq_true c189
               clear c189
               by_cases c190 : (t246.length : Int) ≤ (l0.length : Int)
               ·
                rw [if_pos c190] at H
                have c190b0 := eq_true c190
                have c190b1 : decide ((t246.length : Int) ≤ (l0.length : Int)) = true := decide_eq_true c190
                clear c190
                by_cases c191 : (strOfNums t246).toList = (strOfNums (l0.take ((t246.length : Int) : Int).toNat)).toList
                ·
                 rw [if_pos c191] at H
                 have c191b0 : ((strOfNums t246).toList == (strOfNums (l0.take ((t246.length : Int) : Int).toNat)).toList) = true := beq_iff_eq.mpr c191
                 have c191b2 : ((strOfNums t246).toList == (strOfNums (l0.take t246.length)).toList) = true := c191b0
                 have c191b1 : ((strOfNums t246).toList != (strOfNums (l0.take ((t246.length : Int) : Int).toNat)).toList) = false := bne_eq_false_iff_eq.mpr c191
                 have c191b3 : ((strOfNums t246).toList != (strOfNums (l0.take t246.length)).toList) = false := c191b1
                 clear c191
                 simp only [Option.some.injEq, Prod.mk.injEq] at H
                 obtain ⟨rfl, rfl, rfl, rfl⟩ := H
                 have hnb192 := NB227_225.out
                 have hnc192 := NB225_227.out
                 have hcz193_0 : wc.cell? ⟨gb227, 0, none⟩ = some (.int .i64 (wrap64 (rd l0 0))) := (zK BK227.out 0).trans rfl
                 have hcz193_1 : wc.cell? ⟨gb227, 1, none⟩ = some (.int .i64 0) := (zK BK227.out 1).trans rfl
                 have hcz193_2 : wc.cell? ⟨gb227, 2, none⟩ = some (.string (⟨#[]⟩ : ByteArray)) := (zK BK227.out 2).trans rfl
                 have hfz193_0 := zF BK227.out 0
                 have hfz193_1 := zF BK227.out 1
                 have hfz193_2 := zF BK227.out 2
                 try go_wp2_with (first | ((with_reducible refine gate_callee (f := 16) rfl ?_); refine goesL_ (some 79) rfl rfl Try.func16 (by kernel_rfl) rfl #[.agg #[.int .i64 (wrap64 (rd l0 0)), .int .i64 0, .string (⟨#[]⟩ : ByteArray)]] rfl (by (try simp only [List.map_toArray, List.map_cons, List.map_nil]); first | done | rfl | (simp only [List.length_drop, List.length_take]; rfl)) ?_; (with_reducible refine (spec_ValueBytes.calls kj126 (wrap64 (rd l0 0)) 0 (⟨#[]⟩ : ByteArray) t246 _ A174.out).mono ?_); rintro e w194 ⟨v247, rfl, ho0, hb⟩; refine ⟨_, rfl, ?_⟩; have n0_ := zM (Kd.R_lower ho0 (zI (by repeat (first | (with_reducible first | exact HB.out | apply zU | apply zV | apply zW | refine zH ?_ GE225.out | refine zH ?_ GE227.out) | exact HB.out)))); have n1_ := zM (zJ (g := gb225) (o := .cells #[.int .i64 0, .int .i64 0, .string (⟨#[]⟩ : ByteArray)] 27 (0, 0)) (by (with_reducible repeat (first | refine zX ?_ _ | refine zY ?_ | refine zZ ?_ _)); exact BK225.out) hb); have n2_ := zM (zJ (g := gb227) (o := .cells #[.int .i64 (wrap64 (rd l0 0)), .int .i64 0, .string (⟨#[]⟩ : ByteArray)] 27 (0, 0)) (by (with_reducible repeat (first | refine zX ?_ _ | refine zY ?_ | refine zZ ?_ _)); exact BK227.out) hb); have n3_ := zM (zG (by repeat (first | (with_reducible first | exact HB.out | apply zU | apply zV | apply zW | refine zH ?_ GE225.out | refine zH ?_ GE227.out) | exact HB.out)) hb); clear BK225; clear BK227; clear HB; have HO248 := n0_; have BK225 := n1_; have BK227 := n2_; have HB := n3_; clear n0_ n1_ n2_ n3_; (try clear hb); (try clear hb2); (try clear hk); (try clear hi); (try clear ho0)))
                 have n0_ := zM (zT HO248.out)
                 have n1_ := zM (zY BK225.out)
                 have n2_ := zM (zY BK227.out)
                 have n3_ := zM (zW HB.out)
                 clear HO248
                 clear BK225
                 clear BK227
                 clear HB
                 have HO248 := n0_
                 have BK225 := n1_
                 have BK227 := n2_
                 have HB := n3_
                 clear n0_ n1_ n2_ n3_
                 obtain ⟨Ao196, co196, eo196⟩ := Kd.R_slice HO248.out
                 (first | subst eo196 | (injection eo196 with f1_ f2_ f3_; have f4_ := f1_.symm; have f5_ := f3_.symm; clear f1_ f2_ f3_; subst f4_; subst f5_))
                 obtain ⟨i0197, hi0197, _, hsz197, _⟩ := info_parts info5
                 obtain ⟨hcut197, hA197, hC197⟩ := print_take_of (P := Try.prog) (Value.int .u8) 0 25 5 .i64 Try.underlying25 hi0197 hsz197 (some ad226) c0 l0 (t246.length : Int) (zL (by assumption)) (zL (by assumption)) HC0.out
                 have HR249 := zM (Kd.C_of_reads (h1 := fun _ => rfl) (hA197 _ (Kd.reads_of_C HR0.out)))
                 have HC249 := zM hC197
                 clear hA197 hC197 hi0197 hsz197
                 have hcv198 := own_string (P := Try.prog) Try.underlying25 Try.underlying5 Try.underlying9 (Kd.own_of_R HO248.out)
                 have hcv199 := Kd.C_string (P := Try.prog) (A := (some ad226)) (c := c0) Try.underlying25 Try.underlying5 Try.underlying9 (Kd.C_below HR249.out HB.out)
                 rw [List.length_take, show min (Int.toNat (t246.length : Int)) l0.length = min t246.length l0.length from rfl] at hcv199
                 refine start_ (n := 20) (S := fun w' => w' = w194.drew) (ds := []) #[ff, ff, ff, ff, ff, ff, ff, ff, ff, ff, ff, ff, ff, ff, ff, ff, ff, ff, ff, ff] (by kernel_rfl) rfl rfl rfl (fun hHeld => ?_); refine with_tabW spec_ValueFrom.tab11 spec_ValueFrom.bits11 (fun HT_ HW_ => ?_)
                 generalize w194.drew = w195 at HO248 BK225 BK227 HB HR249 hcv198 hcv199 hHeld ⊢
                 refine pure_ (i := 0) (N := some 80) (v := ?_) (a' := ?_) #[tt, ff, ff, ff, ff, ff, ff, ff, ff, ff, ff, ff, ff, ff, ff, ff, ff, ff, ff, ff] rfl rfl (any_of HT_.out (by kernel_rfl)) (fun _ _ _ h => h) (Or.inl ⟨by rfl, ?_⟩) ?_ ?_
                 rotate_left
                 ·
                  intro w'
                  go_simp
                  with_reducible rfl
                 rotate_left
                 ·
                  simp only [Act.put, zA, zB, zC, i64_w, i32_w]
                  rfl
                 refine pure_ (i := 1) (N := some 81) (v := ?_) (a' := ?_) #[tt, tt, ff, ff, ff, ff, ff, ff, ff, ff, ff, ff, ff, ff, ff, ff, ff, ff, ff, ff] rfl rfl (any_of HT_.out (by kernel_rfl)) (fun _ _ _ h => h) (Or.inl ⟨by rfl, ?_⟩) ?_ ?_
                 rotate_left
                 ·
                  intro w'
                  go_simp
                  with_reducible rfl
                 rotate_left
                 ·
                  simp only [Act.put, zA, zB, zC, i64_w, i32_w]
                  rfl
                 refine pure_ (i := 2) (N := some 82) (v := ?_) (a' := ?_) #[tt, tt, tt, ff, ff, ff, ff, ff, ff, ff, ff, ff, ff, ff, ff, ff, ff, ff, ff, ff] rfl rfl (any_of HT_.out (by kernel_rfl)) (fun _ _ _ h => h) (Or.inl ⟨by rfl, ?_⟩) ?_ ?_
                 rotate_left
                 ·
                  intro w'
                  go_simp
                  with_reducible rfl
                 rotate_left
                 ·
                  simp only [Act.put, zA, zB, zC, i64_w, i32_w]
                  rfl
                 refine pure_ (i := 3) (N := some 83) (v := ?_) (a' := ?_) #[tt, tt, tt, tt, ff, ff, ff, ff, ff, ff, ff, ff, ff, ff, ff, ff, ff, ff, ff, ff] rfl rfl (any_of HT_.out (by kernel_rfl)) (fun _ _ _ h => h) (Or.inl ⟨by rfl, ?_⟩) ?_ ?_
                 rotate_left
                 ·
                  intro w'
                  go_simp
                  with_reducible rfl
                 rotate_left
                 ·
                  simp only [Act.put, zA, zB, zC, i64_w, i32_w]
                  rfl
                 refine pure_ (i := 4) (N := some 84) (v := ?_) (a' := ?_) #[tt, tt, tt, tt, tt, ff, ff, ff, ff, ff, ff, ff, ff, ff, ff, ff, ff, ff, ff, ff] rfl rfl (any_of HT_.out (by kernel_rfl)) (fun _ _ _ h => h) (Or.inl ⟨by rfl, ?_⟩) ?_ ?_
                 rotate_left
                 ·
                  intro w'
                  go_simp
                  with_reducible rfl
                 rotate_left
                 ·
                  simp only [Act.put, zA, zB, zC, i64_w, i32_w]
                  rfl
                 refine pure_ (i := 5) (N := some 85) (v := ?_) (a' := ?_) #[tt, tt, tt, tt, tt, tt, ff, ff, ff, ff, ff, ff, ff, ff, ff, ff, ff, ff, ff, ff] rfl rfl (any_of HT_.out (by kernel_rfl)) (fun _ _ _ h => h) (Or.inl ⟨by rfl, ?_⟩) ?_ ?_
                 rotate_left
                 ·
                  intro w'
                  go_simp
                  with_reducible rfl
                 rotate_left
                 ·
                  simp only [Act.put, zA, zB, zC, i64_w, i32_w]
                  rfl
                 refine pure_ (i := 6) (N := some 86) (v := ?_) (a' := ?_) #[tt, tt, tt, tt, tt, tt, tt, ff, ff, ff, ff, ff, ff, ff, ff, ff, ff, ff, ff, ff] rfl rfl (any_of HT_.out (by kernel_rfl)) (fun _ _ _ h => h) (Or.inl ⟨by rfl, ?_⟩) ?_ ?_
                 rotate_left
                 ·
                  intro w'
                  go_simp
                  with_reducible rfl
                 rotate_left
                 ·
                  simp only [Act.put, zA, zB, zC, i64_w, i32_w]
                  rfl
                 refine pure_ (i := 7) (N := some 87) (v := ?_) (a' := ?_) #[tt, tt, tt, tt, tt, tt, tt, tt, ff, ff, ff, ff, ff, ff, ff, ff, ff, ff, ff, ff] rfl rfl (any_of HT_.out (by kernel_rfl)) (fun _ _ _ h => h) (Or.inl ⟨by rfl, ?_⟩) ?_ ?_
                 rotate_left
                 ·
                  intro w'
                  go_simp
                  with_reducible rfl
                 rotate_left
                 ·
                  simp only [Act.put, zA, zB, zC, i64_w, i32_w]
                  rfl
                 refine pure_ (i := 8) (N := some 88) (v := ?_) (a' := ?_) #[tt, tt, tt, tt, tt, tt, tt, tt, tt, ff, ff, ff, ff, ff, ff, ff, ff, ff, ff, ff] rfl rfl (any_of HT_.out (by kernel_rfl)) (fun _ _ _ h => h) (Or.inl ⟨by rfl, ?_⟩) ?_ ?_
                 rotate_left
                 ·
                  intro w'
                  go_simp
                  with_reducible rfl
                 rotate_left
                 ·
                  simp only [Act.put, zA, zB, zC, i64_w, i32_w]
                  rfl
                 refine pure_ (i := 9) (N := some 89) (v := ?_) (a' := ?_) #[tt, tt, tt, tt, tt, tt, tt, tt, tt, tt, ff, ff, ff, ff, ff, ff, ff, ff, ff, ff] rfl rfl (any_of HT_.out (by kernel_rfl)) (fun _ _ _ h => h) (Or.inl ⟨by rfl, ?_⟩) ?_ ?_
                 rotate_left
                 ·
                  intro w'
                  go_simp
                  with_reducible rfl
                 rotate_left
                 ·
                  simp only [Act.put, zA, zB, zC, i64_w, i32_w]
                  rfl
                 refine pure_ (i := 10) (N := some 90) (v := ?_) (a' := ?_) #[tt, tt, tt, tt, tt, tt, tt, tt, tt, tt, tt, ff, ff, ff, ff, ff, ff, ff, ff, ff] rfl rfl (any_of HT_.out (by kernel_rfl)) (fun _ _ _ h => h) (Or.inl ⟨by rfl, ?_⟩) ?_ ?_
                 rotate_left
                 ·
                  intro w'
                  go_simp
                  with_reducible rfl
                 rotate_left
                 ·
                  simp only [Act.put, zA, zB, zC, i64_w, i32_w]
                  rfl
                 refine pure_ (i := 11) (N := some 91) (v := ?_) (a' := ?_) #[tt, tt, tt, tt, tt, tt, tt, tt, tt, tt, tt, tt, ff, ff, ff, ff, ff, ff, ff, ff] rfl rfl (any_of HT_.out (by kernel_rfl)) (fun _ _ _ h => h) (Or.inl ⟨by rfl, ?_⟩) ?_ ?_
                 rotate_left
                 ·
                  intro w'
                  go_simp
                  with_reducible rfl
                 rotate_left
                 ·
                  simp only [Act.put, zA, zB, zC, i64_w, i32_w]
                  rfl
                 refine take_ (i := 12) (N := some 92) (v := ?_) (a' := ?_) #[tt, tt, tt, tt, tt, tt, tt, tt, tt, tt, tt, tt, tt, ff, ff, ff, ff, ff, ff, ff] rfl rfl (take_ofW HT_.out HW_.out (by kernel_rfl)) (fun _ _ _ h => h) (Or.inl ⟨by rfl, ?_⟩) hHeld ?_ ?_
                 rotate_left
                 ·
                  rintro w' rfl
                  go_simp
                  with_reducible rfl
                 rotate_left
                 ·
                  simp only [Act.put, zA, zB, zC, i64_w, i32_w]
                  rfl
                 refine pure_ (i := 13) (N := some 93) (v := ?_) (a' := ?_) #[tt, tt, tt, tt, tt, tt, tt, tt, tt, tt, tt, tt, tt, tt, ff, ff, ff, ff, ff, ff] rfl rfl (any_of HT_.out (by kernel_rfl)) (fun _ _ _ h => h) (Or.inl ⟨by rfl, ?_⟩) ?_ ?_
                 rotate_left
                 ·
                  intro w'
                  go_simp
                  with_reducible rfl
                 rotate_left
                 ·
                  simp only [Act.put, zA, zB, zC, i64_w, i32_w]
                  rfl
                 refine pure_ (i := 14) (N := some 94) (v := ?_) (a' := ?_) #[tt, tt, tt, tt, tt, tt, tt, tt, tt, tt, tt, tt, tt, tt, tt, ff, ff, ff, ff, ff] rfl rfl (any_of HT_.out (by kernel_rfl)) (fun _ _ _ h => h) (Or.inl ⟨by rfl, ?_⟩) ?_ ?_
                 rotate_left
                 ·
                  intro w'
                  go_simp
                  with_reducible rfl
                 rotate_left
                 ·
                  simp only [Act.put, zA, zB, zC, i64_w, i32_w]
                  rfl
                 refine pure_ (i := 15) (N := some 95) (v := ?_) (a' := ?_) #[tt, tt, tt, tt, tt, tt, tt, tt, tt, tt, tt, tt, tt, tt, tt, tt, ff, ff, ff, ff] rfl rfl (any_of HT_.out (by kernel_rfl)) (fun _ _ _ h => h) (Or.inl ⟨by rfl, ?_⟩) ?_ ?_
                 rotate_left
                 ·
                  intro w'
                  go_simp
                  with_reducible rfl
                 rotate_left
                 ·
                  simp only [Act.put, zA, zB, zC, i64_w, i32_w]
                  rfl
                 refine pure_ (i := 16) (N := some 96) (v := ?_) (a' := ?_) #[tt, tt, tt, tt, tt, tt, tt, tt, tt, tt, tt, tt, tt, tt, tt, tt, tt, ff, ff, ff] rfl rfl (any_of HT_.out (by kernel_rfl)) (fun _ _ _ h => h) (Or.inl ⟨by rfl, ?_⟩) ?_ ?_
                 rotate_left
                 ·
                  intro w'
                  go_simp
                  with_reducible rfl
                 rotate_left
                 ·
                  simp only [Act.put, zA, zB, zC, i64_w, i32_w]
                  rfl
                 refine take_ (i := 17) (N := some 97) (v := ?_) (a' := ?_) #[tt, tt, tt, tt, tt, tt, tt, tt, tt, tt, tt, tt, tt, tt, tt, tt, tt, tt, ff, ff] rfl rfl (take_ofW HT_.out HW_.out (by kernel_rfl)) (fun _ _ _ h => h) (Or.inl ⟨by rfl, ?_⟩) hHeld ?_ ?_
                 rotate_left
                 ·
                  rintro w' rfl
                  go_simp
                  with_reducible rfl
                 rotate_left
                 ·
                  simp only [Act.put, zA, zB, zC, i64_w, i32_w]
                  rfl
                 refine take_ (i := 18) (N := some 98) (v := ?_) (a' := ?_) #[tt, tt, tt, tt, tt, tt, tt, tt, tt, tt, tt, tt, tt, tt, tt, tt, tt, tt, tt, ff] rfl rfl (take_ofW HT_.out HW_.out (by kernel_rfl)) (fun _ _ _ h => h) (Or.inl ⟨by rfl, ?_⟩) hHeld ?_ ?_
                 rotate_left
                 ·
                  rintro w' rfl
                  go_simp
                  with_reducible rfl
                 rotate_left
                 ·
                  simp only [Act.put, zA, zB, zC, i64_w, i32_w]
                  rfl
                 refine pure_ (i := 19) (N := some 99) (v := ?_) (a' := ?_) #[tt, tt, tt, tt, tt, tt, tt, tt, tt, tt, tt, tt, tt, tt, tt, tt, tt, tt, tt, tt] rfl rfl (any_of HT_.out (by kernel_rfl)) (fun _ _ _ h => h) (Or.inl ⟨by rfl, ?_⟩) ?_ ?_
                 rotate_left
                 ·
                  intro w'
                  go_simp
                  with_reducible rfl
                 rotate_left
                 ·
                  simp only [Act.put, zA, zB, zC, i64_w, i32_w]
                  rfl
                 refine done_ (done_of HT_.out (by kernel_rfl)) ?_
                 have hcz201_0 : w195.cell? ⟨gb227, 0, none⟩ = some (.int .i64 (wrap64 (rd l0 0))) := (zK BK227.out 0).trans rfl
                 have hcz201_1 : w195.cell? ⟨gb227, 1, none⟩ = some (.int .i64 0) := (zK BK227.out 1).trans rfl
                 have hcz201_2 : w195.cell? ⟨gb227, 2, none⟩ = some (.string (⟨#[]⟩ : ByteArray)) := (zK BK227.out 2).trans rfl
                 have hfz201_0 := zF BK227.out 0
                 have hfz201_1 := zF BK227.out 1
                 have hfz201_2 := zF BK227.out 2
                 have hcz202_0 : w195.cell? ⟨gb225, 0, none⟩ = some (.int .i64 0) := (zK BK225.out 0).trans rfl
                 have hcz202_1 : w195.cell? ⟨gb225, 1, none⟩ = some (.int .i64 0) := (zK BK225.out 1).trans rfl
                 have hcz202_2 : w195.cell? ⟨gb225, 2, none⟩ = some (.string (⟨#[]⟩ : ByteArray)) := (zK BK225.out 2).trans rfl
                 have hfz202_0 := zF BK225.out 0
                 have hfz202_1 := zF BK225.out 1
                 have hfz202_2 := zF BK225.out 2
                 try go_wp2
                 refine bodyPost_ret (results_ct rfl _ _ gb225 27 #[.int .i64 (wrap64 (rd l0 0)), .int .i64 0, .string (⟨#[]⟩ : ByteArray)] (0, 0) _ rfl (by (with_reducible repeat (first | refine zX ?_ _ | refine zY ?_ | refine zZ ?_ _)); refine blk_put (cs := #[.int .i64 (wrap64 (rd l0 0)), .int .i64 0, .string (⟨#[]⟩ : ByteArray)]) ?_ 2 _ rfl; (with_reducible repeat (first | refine zX ?_ _ | refine zY ?_ | refine zZ ?_ _)); refine blk_put (cs := #[.int .i64 (wrap64 (rd l0 0)), .int .i64 0, .string (⟨#[]⟩ : ByteArray)]) ?_ 1 _ rfl; (with_reducible repeat (first | refine zX ?_ _ | refine zY ?_ | refine zZ ?_ _)); refine blk_put (cs := #[.int .i64 0, .int .i64 0, .string (⟨#[]⟩ : ByteArray)]) ?_ 0 _ rfl; (with_reducible repeat (first | refine zX ?_ _ | refine zY ?_ | refine zZ ?_ _)); exact BK225.out) Try.underlying27 rfl (by kernel_rfl)) rfl ?_
                 exact ⟨by first | rfl | (simp [errW_none, errW_some] <;> rfl) | (simp [*, errW_none, errW_some] <;> rfl), by repeat (first | (with_reducible first | exact HB.out | apply zU | apply zV | apply zW | refine zH ?_ GE225.out | refine zH ?_ GE227.out) | exact HB.out)⟩
                ·
                 rw [if_neg c191] at H
                 have c191b0 : ((strOfNums t246).toList == (strOfNums (l0.take ((t246.length : Int) : Int).toNat)).toList) = false := beq_eq_false_iff_ne.mpr c191
                 have c191b2 : ((strOfNums t246).toList == (strOfNums (l0.take t246.length)).toList) = false := c191b0
                 have c191b1 : ((strOfNums t246).toList != (strOfNums (l0.take ((t246.length : Int) : Int).toNat)).toList) = true := bne_iff_ne.mpr c191
                 have c191b3 : ((strOfNums t246).toList != (strOfNums (l0.take t246.length)).toList) = true := c191b1
                 simp only [Option.some.injEq, Prod.mk.injEq] at H
                 obtain ⟨rfl, rfl, rfl, rfl⟩ := H
                 have hnb203 := NB227_225.out
                 have hnc203 := NB225_227.out
                 have hcz204_0 : wc.cell? ⟨gb227, 0, none⟩ = some (.int .i64 (wrap64 (rd l0 0))) := (zK BK227.out 0).trans rfl
                 have hcz204_1 : wc.cell? ⟨gb227, 1, none⟩ = some (.int .i64 0) := (zK BK227.out 1).trans rfl
                 have hcz204_2 : wc.cell? ⟨gb227, 2, none⟩ = some (.string (⟨#[]⟩ : ByteArray)) := (zK BK227.out 2).trans rfl
                 have hfz204_0 := zF BK227.out 0
                 have hfz204_1 := zF BK227.out 1
                 have hfz204_2 := zF BK227.out 2
                 try go_wp2_with (first | ((with_reducible refine gate_callee (f := 16) rfl ?_); refine goesL_ (some 79) rfl rfl Try.func16 (by kernel_rfl) rfl #[.agg #[.int .i64 (wrap64 (rd l0 0)), .int .i64 0, .string (⟨#[]⟩ : ByteArray)]] rfl (by (try simp only [List.map_toArray, List.map_cons, List.map_nil]); first | done | rfl | (simp only [List.length_drop, List.length_take]; rfl)) ?_; (with_reducible refine (spec_ValueBytes.calls kj126 (wrap64 (rd l0 0)) 0 (⟨#[]⟩ : ByteArray) t246 _ A174.out).mono ?_); rintro e w205 ⟨v247, rfl, ho0, hb⟩; refine ⟨_, rfl, ?_⟩; have n0_ := zM (Kd.R_lower ho0 (zI (by repeat (first | (with_reducible first | exact HB.out | apply zU | apply zV | apply zW | refine zH ?_ GE225.out | refine zH ?_ GE227.out) | exact HB.out)))); have n1_ := zM (zJ (g := gb225) (o := .cells #[.int .i64 0, .int .i64 0, .string (⟨#[]⟩ : ByteArray)] 27 (0, 0)) (by (with_reducible repeat (first | refine zX ?_ _ | refine zY ?_ | refine zZ ?_ _)); exact BK225.out) hb); have n2_ := zM (zJ (g := gb227) (o := .cells #[.int .i64 (wrap64 (rd l0 0)), .int .i64 0, .string (⟨#[]⟩ : ByteArray)] 27 (0, 0)) (by (with_reducible repeat (first | refine zX ?_ _ | refine zY ?_ | refine zZ ?_ _)); exact BK227.out) hb); have n3_ := zM (zG (by repeat (first | (with_reducible first | exact HB.out | apply zU | apply zV | apply zW | refine zH ?_ GE225.out | refine zH ?_ GE227.out) | exact HB.out)) hb); clear BK225; clear BK227; clear HB; have HO248 := n0_; have BK225 := n1_; have BK227 := n2_; have HB := n3_; clear n0_ n1_ n2_ n3_; (try clear hb); (try clear hb2); (try clear hk); (try clear hi); (try clear ho0)))
                 have n0_ := zM (zT HO248.out)
                 have n1_ := zM (zY BK225.out)
                 have n2_ := zM (zY BK227.out)
                 have n3_ := zM (zW HB.out)
                 clear HO248
                 clear BK225
                 clear BK227
                 clear HB
                 have HO248 := n0_
                 have BK225 := n1_
                 have BK227 := n2_
                 have HB := n3_
                 clear n0_ n1_ n2_ n3_
                 obtain ⟨Ao207, co207, eo207⟩ := Kd.R_slice HO248.out
                 (first | subst eo207 | (injection eo207 with f1_ f2_ f3_; have f4_ := f1_.symm; have f5_ := f3_.symm; clear f1_ f2_ f3_; subst f4_; subst f5_))
                 obtain ⟨i0208, hi0208, _, hsz208, _⟩ := info_parts info5
                 obtain ⟨hcut208, hA208, hC208⟩ := print_take_of (P := Try.prog) (Value.int .u8) 0 25 5 .i64 Try.underlying25 hi0208 hsz208 (some ad226) c0 l0 (t246.length : Int) (zL (by assumption)) (zL (by assumption)) HC0.out
                 have HR249 := zM (Kd.C_of_reads (h1 := fun _ => rfl) (hA208 _ (Kd.reads_of_C HR0.out)))
                 have HC249 := zM hC208
                 clear hA208 hC208 hi0208 hsz208
                 have hcv209 := own_string (P := Try.prog) Try.underlying25 Try.underlying5 Try.underlying9 (Kd.own_of_R HO248.out)
                 have hcv210 := Kd.C_string (P := Try.prog) (A := (some ad226)) (c := c0) Try.underlying25 Try.underlying5 Try.underlying9 (Kd.C_below HR249.out HB.out)
                 rw [List.length_take, show min (Int.toNat (t246.length : Int)) l0.length = min t246.length l0.length from rfl] at hcv210
                 refine start_ (n := 20) (S := fun w' => w' = w205.drew) (ds := []) #[ff, ff, ff, ff, ff, ff, ff, ff, ff, ff, ff, ff, ff, ff, ff, ff, ff, ff, ff, ff] (by kernel_rfl) rfl rfl rfl (fun hHeld => ?_); refine with_tabW spec_ValueFrom.tab11 spec_ValueFrom.bits11 (fun HT_ HW_ => ?_)
                 generalize w205.drew = w206 at HO248 BK225 BK227 HB HR249 hcv209 hcv210 hHeld ⊢
                 refine pure_ (i := 0) (N := some 80) (v := ?_) (a' := ?_) #[tt, ff, ff, ff, ff, ff, ff, ff, ff, ff, ff, ff, ff, ff, ff, ff, ff, ff, ff, ff] rfl rfl (any_of HT_.out (by kernel_rfl)) (fun _ _ _ h => h) (Or.inl ⟨by rfl, ?_⟩) ?_ ?_
                 rotate_left
                 ·
                  intro w'
                  go_simp
                  with_reducible rfl
                 rotate_left
                 ·
                  simp only [Act.put, zA, zB, zC, i64_w, i32_w]
                  rfl
                 refine pure_ (i := 1) (N := some 81) (v := ?_) (a' := ?_) #[tt, tt, ff, ff, ff, ff, ff, ff, ff, ff, ff, ff, ff, ff, ff, ff, ff, ff, ff, ff] rfl rfl (any_of HT_.out (by kernel_rfl)) (fun _ _ _ h => h) (Or.inl ⟨by rfl, ?_⟩) ?_ ?_
                 rotate_left
                 ·
                  intro w'
                  go_simp
                  with_reducible rfl
                 rotate_left
                 ·
                  simp only [Act.put, zA, zB, zC, i64_w, i32_w]
                  rfl
                 refine pure_ (i := 2) (N := some 82) (v := ?_) (a' := ?_) #[tt, tt, tt, ff, ff, ff, ff, ff, ff, ff, ff, ff, ff, ff, ff, ff, ff, ff, ff, ff] rfl rfl (any_of HT_.out (by kernel_rfl)) (fun _ _ _ h => h) (Or.inl ⟨by rfl, ?_⟩) ?_ ?_
                 rotate_left
                 ·
                  intro w'
                  go_simp
                  with_reducible rfl
                 rotate_left
                 ·
                  simp only [Act.put, zA, zB, zC, i64_w, i32_w]
                  rfl
                 refine pure_ (i := 3) (N := some 83) (v := ?_) (a' := ?_) #[tt, tt, tt, tt, ff, ff, ff, ff, ff, ff, ff, ff, ff, ff, ff, ff, ff, ff, ff, ff] rfl rfl (any_of HT_.out (by kernel_rfl)) (fun _ _ _ h => h) (Or.inl ⟨by rfl, ?_⟩) ?_ ?_
                 rotate_left
                 ·
                  intro w'
                  go_simp
                  with_reducible rfl
                 rotate_left
                 ·
                  simp only [Act.put, zA, zB, zC, i64_w, i32_w]
                  rfl
                 refine pure_ (i := 4) (N := some 84) (v := ?_) (a' := ?_) #[tt, tt, tt, tt, tt, ff, ff, ff, ff, ff, ff, ff, ff, ff, ff, ff, ff, ff, ff, ff] rfl rfl (any_of HT_.out (by kernel_rfl)) (fun _ _ _ h => h) (Or.inl ⟨by rfl, ?_⟩) ?_ ?_
                 rotate_left
                 ·
                  intro w'
                  go_simp
                  with_reducible rfl
                 rotate_left
                 ·
                  simp only [Act.put, zA, zB, zC, i64_w, i32_w]
                  rfl
                 refine pure_ (i := 5) (N := some 85) (v := ?_) (a' := ?_) #[tt, tt, tt, tt, tt, tt, ff, ff, ff, ff, ff, ff, ff, ff, ff, ff, ff, ff, ff, ff] rfl rfl (any_of HT_.out (by kernel_rfl)) (fun _ _ _ h => h) (Or.inl ⟨by rfl, ?_⟩) ?_ ?_
                 rotate_left
                 ·
                  intro w'
                  go_simp
                  with_reducible rfl
                 rotate_left
                 ·
                  simp only [Act.put, zA, zB, zC, i64_w, i32_w]
                  rfl
                 refine pure_ (i := 6) (N := some 86) (v := ?_) (a' := ?_) #[tt, tt, tt, tt, tt, tt, tt, ff, ff, ff, ff, ff, ff, ff, ff, ff, ff, ff, ff, ff] rfl rfl (any_of HT_.out (by kernel_rfl)) (fun _ _ _ h => h) (Or.inl ⟨by rfl, ?_⟩) ?_ ?_
                 rotate_left
                 ·
                  intro w'
                  go_simp
                  with_reducible rfl
                 rotate_left
                 ·
                  simp only [Act.put, zA, zB, zC, i64_w, i32_w]
                  rfl
                 refine pure_ (i := 7) (N := some 87) (v := ?_) (a' := ?_) #[tt, tt, tt, tt, tt, tt, tt, tt, ff, ff, ff, ff, ff, ff, ff, ff, ff, ff, ff, ff] rfl rfl (any_of HT_.out (by kernel_rfl)) (fun _ _ _ h => h) (Or.inl ⟨by rfl, ?_⟩) ?_ ?_
                 rotate_left
                 ·
                  intro w'
                  go_simp
                  with_reducible rfl
                 rotate_left
                 ·
                  simp only [Act.put, zA, zB, zC, i64_w, i32_w]
                  rfl
                 refine pure_ (i := 8) (N := some 88) (v := ?_) (a' := ?_) #[tt, tt, tt, tt, tt, tt, tt, tt, tt, ff, ff, ff, ff, ff, ff, ff, ff, ff, ff, ff] rfl rfl (any_of HT_.out (by kernel_rfl)) (fun _ _ _ h => h) (Or.inl ⟨by rfl, ?_⟩) ?_ ?_
                 rotate_left
                 ·
                  intro w'
                  go_simp
                  with_reducible rfl
                 rotate_left
                 ·
                  simp only [Act.put, zA, zB, zC, i64_w, i32_w]
                  rfl
                 refine pure_ (i := 9) (N := some 89) (v := ?_) (a' := ?_) #[tt, tt, tt, tt, tt, tt, tt, tt, tt, tt, ff, ff, ff, ff, ff, ff, ff, ff, ff, ff] rfl rfl (any_of HT_.out (by kernel_rfl)) (fun _ _ _ h => h) (Or.inl ⟨by rfl, ?_⟩) ?_ ?_
                 rotate_left
                 ·
                  intro w'
                  go_simp
                  with_reducible rfl
                 rotate_left
                 ·
                  simp only [Act.put, zA, zB, zC, i64_w, i32_w]
                  rfl
                 refine pure_ (i := 10) (N := some 90) (v := ?_) (a' := ?_) #[tt, tt, tt, tt, tt, tt, tt, tt, tt, tt, tt, ff, ff, ff, ff, ff, ff, ff, ff, ff] rfl rfl (any_of HT_.out (by kernel_rfl)) (fun _ _ _ h => h) (Or.inl ⟨by rfl, ?_⟩) ?_ ?_
                 rotate_left
                 ·
                  intro w'
                  go_simp
                  with_reducible rfl
                 rotate_left
                 ·
                  simp only [Act.put, zA, zB, zC, i64_w, i32_w]
                  rfl
                 refine pure_ (i := 11) (N := some 91) (v := ?_) (a' := ?_) #[tt, tt, tt, tt, tt, tt, tt, tt, tt, tt, tt, tt, ff, ff, ff, ff, ff, ff, ff, ff] rfl rfl (any_of HT_.out (by kernel_rfl)) (fun _ _ _ h => h) (Or.inl ⟨by rfl, ?_⟩) ?_ ?_
                 rotate_left
                 ·
                  intro w'
                  go_simp
                  with_reducible rfl
                 rotate_left
                 ·
                  simp only [Act.put, zA, zB, zC, i64_w, i32_w]
                  rfl
                 refine take_ (i := 12) (N := some 92) (v := ?_) (a' := ?_) #[tt, tt, tt, tt, tt, tt, tt, tt, tt, tt, tt, tt, tt, ff, ff, ff, ff, ff, ff, ff] rfl rfl (take_ofW HT_.out HW_.out (by kernel_rfl)) (fun _ _ _ h => h) (Or.inl ⟨by rfl, ?_⟩) hHeld ?_ ?_
                 rotate_left
                 ·
                  rintro w' rfl
                  go_simp
                  with_reducible rfl
                 rotate_left
                 ·
                  simp only [Act.put, zA, zB, zC, i64_w, i32_w]
                  rfl
                 refine pure_ (i := 13) (N := some 93) (v := ?_) (a' := ?_) #[tt, tt, tt, tt, tt, tt, tt, tt, tt, tt, tt, tt, tt, tt, ff, ff, ff, ff, ff, ff] rfl rfl (any_of HT_.out (by kernel_rfl)) (fun _ _ _ h => h) (Or.inl ⟨by rfl, ?_⟩) ?_ ?_
                 rotate_left
                 ·
                  intro w'
                  go_simp
                  with_reducible rfl
                 rotate_left
                 ·
                  simp only [Act.put, zA, zB, zC, i64_w, i32_w]
                  rfl
                 refine pure_ (i := 14) (N := some 94) (v := ?_) (a' := ?_) #[tt, tt, tt, tt, tt, tt, tt, tt, tt, tt, tt, tt, tt, tt, tt, ff, ff, ff, ff, ff] rfl rfl (any_of HT_.out (by kernel_rfl)) (fun _ _ _ h => h) (Or.inl ⟨by rfl, ?_⟩) ?_ ?_
                 rotate_left
                 ·
                  intro w'
                  go_simp
                  with_reducible rfl
                 rotate_left
                 ·
                  simp only [Act.put, zA, zB, zC, i64_w, i32_w]
                  rfl
                 refine pure_ (i := 15) (N := some 95) (v := ?_) (a' := ?_) #[tt, tt, tt, tt, tt, tt, tt, tt, tt, tt, tt, tt, tt, tt, tt, tt, ff, ff, ff, ff] rfl rfl (any_of HT_.out (by kernel_rfl)) (fun _ _ _ h => h) (Or.inl ⟨by rfl, ?_⟩) ?_ ?_
                 rotate_left
                 ·
                  intro w'
                  go_simp
                  with_reducible rfl
                 rotate_left
                 ·
                  simp only [Act.put, zA, zB, zC, i64_w, i32_w]
                  rfl
                 refine pure_ (i := 16) (N := some 96) (v := ?_) (a' := ?_) #[tt, tt, tt, tt, tt, tt, tt, tt, tt, tt, tt, tt, tt, tt, tt, tt, tt, ff, ff, ff] rfl rfl (any_of HT_.out (by kernel_rfl)) (fun _ _ _ h => h) (Or.inl ⟨by rfl, ?_⟩) ?_ ?_
                 rotate_left
                 ·
                  intro w'
                  go_simp
                  with_reducible rfl
                 rotate_left
                 ·
                  simp only [Act.put, zA, zB, zC, i64_w, i32_w]
                  rfl
                 refine take_ (i := 17) (N := some 97) (v := ?_) (a' := ?_) #[tt, tt, tt, tt, tt, tt, tt, tt, tt, tt, tt, tt, tt, tt, tt, tt, tt, tt, ff, ff] rfl rfl (take_ofW HT_.out HW_.out (by kernel_rfl)) (fun _ _ _ h => h) (Or.inl ⟨by rfl, ?_⟩) hHeld ?_ ?_
                 rotate_left
                 ·
                  rintro w' rfl
                  go_simp
                  with_reducible rfl
                 rotate_left
                 ·
                  simp only [Act.put, zA, zB, zC, i64_w, i32_w]
                  rfl
                 refine take_ (i := 18) (N := some 98) (v := ?_) (a' := ?_) #[tt, tt, tt, tt, tt, tt, tt, tt, tt, tt, tt, tt, tt, tt, tt, tt, tt, tt, tt, ff] rfl rfl (take_ofW HT_.out HW_.out (by kernel_rfl)) (fun _ _ _ h => h) (Or.inl ⟨by rfl, ?_⟩) hHeld ?_ ?_
                 rotate_left
                 ·
                  rintro w' rfl
                  go_simp
                  with_reducible rfl
                 rotate_left
                 ·
                  simp only [Act.put, zA, zB, zC, i64_w, i32_w]
                  rfl
                 refine pure_ (i := 19) (N := some 99) (v := ?_) (a' := ?_) #[tt, tt, tt, tt, tt, tt, tt, tt, tt, tt, tt, tt, tt, tt, tt, tt, tt, tt, tt, tt] rfl rfl (any_of HT_.out (by kernel_rfl)) (fun _ _ _ h => h) (Or.inl ⟨by rfl, ?_⟩) ?_ ?_
                 rotate_left
                 ·
                  intro w'
                  go_simp
                  with_reducible rfl
                 rotate_left
                 ·
                  simp only [Act.put, zA, zB, zC, i64_w, i32_w]
                  rfl
                 refine done_ (done_of HT_.out (by kernel_rfl)) ?_
                 have hcz212_0 : w206.cell? ⟨gb225, 0, none⟩ = some (.int .i64 0) := (zK BK225.out 0).trans rfl
                 have hcz212_1 : w206.cell? ⟨gb225, 1, none⟩ = some (.int .i64 0) := (zK BK225.out 1).trans rfl
                 have hcz212_2 : w206.cell? ⟨gb225, 2, none⟩ = some (.string (⟨#[]⟩ : ByteArray)) := (zK BK225.out 2).trans rfl
                 have hfz212_0 := zF BK225.out 0
                 have hfz212_1 := zF BK225.out 1
                 have hfz212_2 := zF BK225.out 2
                 try go_wp2
                 refine bodyPost_ret (results_ct rfl _ _ gb225 27 #[.int .i64 0, .int .i64 0, .string (⟨#[]⟩ : ByteArray)] (0, 0) _ rfl (by (with_reducible repeat (first | refine zX ?_ _ | refine zY ?_ | refine zZ ?_ _)); refine blk_put (cs := #[.int .i64 0, .int .i64 0, .string (⟨#[]⟩ : ByteArray)]) ?_ 2 _ rfl; (with_reducible repeat (first | refine zX ?_ _ | refine zY ?_ | refine zZ ?_ _)); refine blk_put (cs := #[.int .i64 0, .int .i64 0, .string (⟨#[]⟩ : ByteArray)]) ?_ 1 _ rfl; (with_reducible repeat (first | refine zX ?_ _ | refine zY ?_ | refine zZ ?_ _)); refine blk_put (cs := #[.int .i64 0, .int .i64 0, .string (⟨#[]⟩ : ByteArray)]) ?_ 0 _ rfl; (with_reducible repeat (first | refine zX ?_ _ | refine zY ?_ | refine zZ ?_ _)); exact BK225.out) Try.underlying27 rfl (by kernel_rfl)) rfl ?_
                 exact ⟨by first | rfl | (simp [errW_none, errW_some] <;> rfl) | (simp [*, errW_none, errW_some] <;> rfl), by repeat (first | (with_reducible first | exact HB.out | apply zU | apply zV | apply zW | refine zH ?_ GE225.out | refine zH ?_ GE227.out) | exact HB.out)⟩
               ·
                rw [if_neg c190] at H
                exact absurd H (by simp)
              ·
               rw [if_neg c189] at H
               exact absurd H (by simp)
  ·
   rw [if_neg c5] at H
   exact absurd H (by simp)

theorem spec_ValueFrom.calls (k : Nat) (A0 : Option Addr) (c0 : Nat) (l0 : List Int) (r1 : Int) (r2 : Int) (r3 : ByteArray) (r4 : Int) (w : World) (hr0 : Kd.C (Kd.int .u8) w A0 l0.length l0) (hc0 : l0.length ≤ c0) (h : spec_ValueFrom.f k l0 = some (r1, r2, r3, r4)) :
  Calls Try.prog 24 #[.slice A0 l0.length c0] w fun e w' => e = .returned (.tuple #[.agg #[.int .i64 r1, .int .i64 r2, .string r3], .int .i64 r4]) ∧ Below w.heap.size w w' := by
 by_cases hqz : (wrap64 (rd l0 0)) = 1
 ·
  exact spec_ValueFrom.callsA k A0 c0 l0 r1 r2 r3 r4 w hr0 hc0 ⟨hqz⟩ h
 ·
  exact spec_ValueFrom.callsB k A0 c0 l0 r1 r2 r3 r4 w hr0 hc0 ⟨hqz⟩ h
end

end Go.Proofs.Ytdgikheibcmcjaa.X
