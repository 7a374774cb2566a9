/- Plain functions for the Go functions of this seat, and proofs that each call answers as its plain function does; made by this session's program over the kit's printer. -/
import Derived.Test.YtdgikheibcmcjaaUX0
import Derived.Test.YtdgikheibcmcjaaZFnValueFrom0
namespace Go.Proofs.Ytdgikheibcmcjaa.X
open Go.RowKit Go.Proofs.YtdgikheibcmcjaaV.PrintWords Go.Proofs.YtdgikheibcmcjaaV.PrintLast Go.Proofs.YtdgikheibcmcjaaV.PrintMore
attribute [local go_sem] max2_int min2_int max_two min_two max_three min_three max_four min_four   -- for this text's walks alone
set_option linter.unusedVariables false
set_option linter.unusedSimpArgs false

open Go.Proofs.YtdgikheibcmcjaaV.PrintWords renaming below_alloc → zU, pw_below_drewN → zV, below_drew1 → zW, blk_drewN → zX, blk_drew → zY, blk_alloc → zZ, blk_frozen → zF, blk_cell → zK, below_step → zG, below_set → zH, below_size → zI, blk_below → zJ
open Go.Proofs.YtdgikheibcmcjaaV.PrintWords.Kd renaming R_alloc → zR, R_drewN → zS, R_drew → zT, C_alloc → zQ, C_drewN → zO, C_drew → zP
section
/-! ### spec_ValueBytes: function 16 -/
def spec_ValueBytes.f (k : Nat) (a0_0 : Int) (a0_1 : Int) (a0_2 : ByteArray) : Option (List Int) := (spec_ValueOk.f k a0_0 a0_1 a0_2).bind fun t128 => (if t128 = true then ((some (([(a0_0) % 256] : List Int) : List Int)).bind fun y132 => (if a0_0 = 1 then ((some (([(wrap64 (Int.tdiv (wrap64 (a0_1 + 10000)) 256)) % 256, (Int.tmod (wrap64 (a0_1 + 10000)) 256) % 256] : List Int) : List Int)).bind fun y135 => (if y132.length + y135.length < 140737488355328 then (some (y132 ++ y135)) else (none))) else (if a0_0 = 2 then (if y132.length < 140737488355328 then ((some (y132 ++ [((a0_2.size : Int)) % 256] : List Int)).bind fun y141 => (if y141.length + a0_2.size < 140737488355328 then (some (y141 ++ bytesOf a0_2)) else (none))) else (none)) else (if a0_0 = 3 then (if y132.length < 140737488355328 then (some (y132 ++ [(a0_1) % 256])) else (none)) else (some y132))))) else (some (([] : List Int))))
theorem spec_ValueBytes.mono : ∀ a0 a1 a2 k, LeO (spec_ValueBytes.f k a0 a1 a2) (spec_ValueBytes.f (k + 1) a0 a1 a2) := by
 intro a0 a1 a2 k
 unfold spec_ValueBytes.f
 repeat' first
   | (with_reducible exact spec_ValueOk.mono _ _ _ _)
   | (with_reducible exact LeO.refl _)
   | (with_reducible exact LeO.none _)
   | (with_reducible refine LeO.ite ?_ ?_)
   | (with_reducible refine LeO.bind ?_ (fun _ => ?_))
   | exact spec_ValueOk.mono _ _ _ _
   | exact LeO.none _
   | refine LeO.ite ?_ ?_
   | refine LeO.bind ?_ (fun _ => ?_)
def spec_ValueBytes.T8 : Bool × List (List Nat × List Nat) := (true, [([], []), ([], []), ([1], [1]), ([2], [2]), ([3], [3]), ([4], [4]), ([0, 5], [0, 5]), ([], []), ([7], [7]), ([8], [8]), ([6, 9, 6], [6, 9]), ([10, 10, 0, 1, 2, 3, 4, 5, 6, 7, 8, 9, 10], [0, 10])])
def spec_ValueBytes.B8 : List Nat := [0, 0, 2, 6, 14, 30, 63, 0, 128, 384, 1023, 2047]
theorem spec_ValueBytes.tab8 : rtab .any (opsOf Try.f16 8) = spec_ValueBytes.T8 := by kernel_rfl
theorem spec_ValueBytes.bits8 : waitsOk spec_ValueBytes.T8.2 spec_ValueBytes.B8 = true := by kernel_rfl
set_option maxHeartbeats 8000000 in
set_option maxRecDepth 100000 in
theorem spec_ValueBytes.calls (k : Nat) (a0_0 : Int) (a0_1 : Int) (a0_2 : ByteArray) (r : List Int) (w : World) (h : spec_ValueBytes.f k a0_0 a0_1 a0_2 = some r) :
  Calls Try.prog 16 #[.agg #[.int .i64 a0_0, .int .i64 a0_1, .string a0_2]] w fun e w' => ∃ v0_ : Value, e = .returned (v0_) ∧ Kd.R (Kd.int .u8) 5 w' w.heap.size (fun _ => True) v0_ r ∧ Below w.heap.size w w' := by
 have hu27 := Try.underlying27
 have HB := zM (Below.refl w.heap.size w)
 have H : ((spec_ValueOk.f k a0_0 a0_1 a0_2).bind fun t128 => (if t128 = true then ((some (([(a0_0) % 256] : List Int) : List Int)).bind fun y132 => (if a0_0 = 1 then ((some (([(wrap64 (Int.tdiv (wrap64 (a0_1 + 10000)) 256)) % 256, (Int.tmod (wrap64 (a0_1 + 10000)) 256) % 256] : List Int) : List Int)).bind fun y135 => (if y132.length + y135.length < 140737488355328 then (some (y132 ++ y135)) else (none))) else (if a0_0 = 2 then (if y132.length < 140737488355328 then ((some (y132 ++ [((a0_2.size : Int)) % 256] : List Int)).bind fun y141 => (if y141.length + a0_2.size < 140737488355328 then (some (y141 ++ bytesOf a0_2)) else (none))) else (none)) else (if a0_0 = 3 then (if y132.length < 140737488355328 then (some (y132 ++ [(a0_1) % 256])) else (none)) else (some y132))))) else (some (([] : List Int))))) = some r := h
 clear h
 replace H := Option.bind_eq_some_iff.mp H
 obtain ⟨t128, A20, H⟩ := H
 replace H : (if t128 = true then ((some (([(a0_0) % 256] : List Int) : List Int)).bind fun y132 => (if a0_0 = 1 then ((some (([(wrap64 (Int.tdiv (wrap64 (a0_1 + 10000)) 256)) % 256, (Int.tmod (wrap64 (a0_1 + 10000)) 256) % 256] : List Int) : List Int)).bind fun y135 => (if y132.length + y135.length < 140737488355328 then (some (y132 ++ y135)) else (none))) else (if a0_0 = 2 then (if y132.length < 140737488355328 then ((some (y132 ++ [((a0_2.size : Int)) % 256] : List Int)).bind fun y141 => (if y141.length + a0_2.size < 140737488355328 then (some (y141 ++ bytesOf a0_2)) else (none))) else (none)) else (if a0_0 = 3 then (if y132.length < 140737488355328 then (some (y132 ++ [(a0_1) % 256])) else (none)) else (some y132))))) else (some (([] : List Int)))) = some r := H
 have A2 := zM A20
 clear A20
 by_cases c3 : t128 = true
 ·
  subst c3
  have H1 : ((some (([(a0_0) % 256] : List Int) : List Int)).bind fun y132 => (if a0_0 = 1 then ((some (([(wrap64 (Int.tdiv (wrap64 (a0_1 + 10000)) 256)) % 256, (Int.tmod (wrap64 (a0_1 + 10000)) 256) % 256] : List Int) : List Int)).bind fun y135 => (if y132.length + y135.length < 140737488355328 then (some (y132 ++ y135)) else (none))) else (if a0_0 = 2 then (if y132.length < 140737488355328 then ((some (y132 ++ [((a0_2.size : Int)) % 256] : List Int)).bind fun y141 => (if y141.length + a0_2.size < 140737488355328 then (some (y141 ++ bytesOf a0_2)) else (none))) else (none)) else (if a0_0 = 3 then (if y132.length < 140737488355328 then (some (y132 ++ [(a0_1) % 256])) else (none)) else (some y132))))) = some r := by rw [if_pos rfl] at H; exact H
  clear H
  have H := H1
  clear H1
  obtain ⟨y132, hy132⟩ : ∃ y_ : List Int, y_ = (([(a0_0) % 256] : List Int)) := ⟨_, rfl⟩
  replace H : (if a0_0 = 1 then ((some (([(wrap64 (Int.tdiv (wrap64 (a0_1 + 10000)) 256)) % 256, (Int.tmod (wrap64 (a0_1 + 10000)) 256) % 256] : List Int) : List Int)).bind fun y135 => (if y132.length + y135.length < 140737488355328 then (some (y132 ++ y135)) else (none))) else (if a0_0 = 2 then (if y132.length < 140737488355328 then ((some (y132 ++ [((a0_2.size : Int)) % 256] : List Int)).bind fun y141 => (if y141.length + a0_2.size < 140737488355328 then (some (y141 ++ bytesOf a0_2)) else (none))) else (none)) else (if a0_0 = 3 then (if y132.length < 140737488355328 then (some (y132 ++ [(a0_1) % 256])) else (none)) else (some y132)))) = some r := by first | (rw [hy132]; with_reducible exact H) | (have H2_ := (Option.bind_some _ _).symm.trans H; rw [hy132]; with_reducible exact H2_) | (have H2_ := (Option.bind_some _ _).symm.trans H; with_reducible exact H2_) | with_reducible exact H | (rw [hy132]; exact H) | exact H
  have Ny132 := zM hy132
  clear hy132
  by_cases c4 : a0_0 = 1
  ·
   rw [if_pos c4] at H
   have c4b0 : (a0_0 == 1) = true := beq_iff_eq.mpr c4
   have c4b1 : (a0_0 != 1) = false := bne_eq_false_iff_eq.mpr c4
   clear c4
   obtain ⟨y135, hy135⟩ : ∃ y_ : List Int, y_ = (([(wrap64 (Int.tdiv (wrap64 (a0_1 + 10000)) 256)) % 256, (Int.tmod (wrap64 (a0_1 + 10000)) 256) % 256] : List Int)) := ⟨_, rfl⟩
   replace H : (if y132.length + y135.length < 140737488355328 then (some (y132 ++ y135)) else (none)) = some r := by first | (rw [hy135]; with_reducible exact H) | (have H2_ := (Option.bind_some _ _).symm.trans H; rw [hy135]; with_reducible exact H2_) | (have H2_ := (Option.bind_some _ _).symm.trans H; with_reducible exact H2_) | with_reducible exact H | (rw [hy135]; exact H) | exact H
   have Ny135 := zM hy135
   clear hy135
   by_cases c5 : y132.length + y135.length < 140737488355328
   ·
    rw [if_pos c5] at H
    have LMc5 := zM c5
    clear c5
    obtain ⟨y138, hy138⟩ : ∃ y_ : List Int, y_ = (y132 ++ y135) := ⟨_, rfl⟩
    replace H : (some y138) = some r := by first | (rw [hy138]; with_reducible exact H) | (have H2_ := (Option.bind_some _ _).symm.trans H; rw [hy138]; with_reducible exact H2_) | (have H2_ := (Option.bind_some _ _).symm.trans H; with_reducible exact H2_) | with_reducible exact H | (rw [hy138]; exact H) | exact H
    have Ny138 := zM hy138
    clear hy138
    obtain rfl := Option.some.inj H
    go_enter Try.func16, Try.ntmps16
    go_wp2_with (first | ((with_reducible refine gate_dst (N := 1) rfl ?_); refine box_event ?hg (N := 1) ?hd (cs := #[.int .i64 a0_0, .int .i64 a0_1, .string a0_2]) (t := 27) ?hr ?_; (case hd => rfl); (case hg => rfl); (case hr => first | (go_simp; done) | (go_simp; rfl)); intro gb127 hg w6 hbox hb; have n0_ := zM (zG (by repeat (first | (with_reducible first | exact HB.out | apply zU | apply zV | apply zW) | exact HB.out)) hb); have n1_ := zM (hbox); have n2_ := zM ((by rw [hg]; exact (zI (by repeat (first | (with_reducible first | exact HB.out | apply zU | apply zV | apply zW) | exact HB.out))) : w.heap.size ≤ gb127)); have n3_ := zM ((by rw [hg]; exact (zI (by repeat (first | (with_reducible first | exact HB.out | apply zU | apply zV | apply zW) | exact HB.out))) : w.heap.size ≤ gb127)); clear HB; have HB := n0_; have BK127 := n1_; have GW127 := n2_; have GE127 := n3_; clear n0_ n1_ n2_ n3_; clear hb hbox hg; have hcz7_0 : w6.cell? ⟨gb127, 0, none⟩ = some (.int .i64 a0_0) := (zK BK127.out 0).trans rfl; have hcz7_1 : w6.cell? ⟨gb127, 1, none⟩ = some (.int .i64 a0_1) := (zK BK127.out 1).trans rfl; have hcz7_2 : w6.cell? ⟨gb127, 2, none⟩ = some (.string a0_2) := (zK BK127.out 2).trans rfl; have hfz7_0 := zF BK127.out 0; have hfz7_1 := zF BK127.out 1; have hfz7_2 := zF BK127.out 2) | ((with_reducible refine gate_callee (f := 45) rfl ?_); refine goesL_ (some 5) rfl rfl Try.func45 (by kernel_rfl) rfl #[.agg #[.int .i64 a0_0, .int .i64 a0_1, .string a0_2]] rfl (by (try simp only [List.map_toArray, List.map_cons, List.map_nil]); first | done | rfl | (simp only [List.length_drop, List.length_take]; rfl)) ?_; (with_reducible refine (spec_ValueOk.calls k a0_0 a0_1 a0_2 true _ A2.out).mono ?_); rintro e w8 ⟨rfl, hb⟩; refine ⟨_, rfl, ?_⟩; have n0_ := zM (zJ (g := gb127) (o := .cells #[.int .i64 a0_0, .int .i64 a0_1, .string a0_2] 27 (0, 0)) (by (with_reducible repeat (first | refine zX ?_ _ | refine zY ?_ | refine zZ ?_ _)); exact BK127.out) hb); have n1_ := zM (zG (by repeat (first | (with_reducible first | exact HB.out | apply zU | apply zV | apply zW | refine zH ?_ GE127.out) | exact HB.out)) hb); clear BK127; clear HB; have BK127 := n0_; have HB := n1_; clear n0_ n1_; (try clear hb); (try clear hb2); (try clear hk); (try clear hi); have hcz9_0 : w8.cell? ⟨gb127, 0, none⟩ = some (.int .i64 a0_0) := (zK BK127.out 0).trans rfl; have hcz9_1 : w8.cell? ⟨gb127, 1, none⟩ = some (.int .i64 a0_1) := (zK BK127.out 1).trans rfl; have hcz9_2 : w8.cell? ⟨gb127, 2, none⟩ = some (.string a0_2) := (zK BK127.out 2).trans rfl; have hfz9_0 := zF BK127.out 0; have hfz9_1 := zF BK127.out 1; have hfz9_2 := zF BK127.out 2) | ((with_reducible refine gate_dst (N := 11) rfl ?_); refine Kd.R_lit (Kd.int .u8) _ 5 ?hg (N := 11) ?hd (xs := ([(a0_0) % 256] : List Int)) (inner := [.int .u8 ((a0_0) % 256)]) (ok := fun _ => True) (okp := fun _ => True) ?hr ?hp (fun _ hk => hk) trivial (Below.refl _ _) (Nat.le_refl _) (by simp) ?_; (case hd => rfl); (case hg => rfl); (case hr => first | (go_simp; done) | (go_simp; rfl)); (case hp => exact (Reps.one (show Kd.M (Kd.int .u8) _ _ _ ((a0_0) % 256) [.int .u8 ((a0_0) % 256)] from rfl) (Reps.none _ _))); intro v133 w10 ho11 hb hg_ hnew_; clear hg_ hnew_; (first | rw [← Ny132.out] at ho11 | (simp only [Int.reduceToNat] at ho11; rw [← Ny132.out] at ho11)); have n0_ := zM (Kd.R_lower ho11 (zI (by repeat (first | (with_reducible first | exact HB.out | apply zU | apply zV | apply zW | refine zH ?_ GE127.out) | exact HB.out)))); have n1_ := zM (zJ (g := gb127) (o := .cells #[.int .i64 a0_0, .int .i64 a0_1, .string a0_2] 27 (0, 0)) (by (with_reducible repeat (first | refine zX ?_ _ | refine zY ?_ | refine zZ ?_ _)); exact BK127.out) hb); have n2_ := zM (zG (by repeat (first | (with_reducible first | exact HB.out | apply zU | apply zV | apply zW | refine zH ?_ GE127.out) | exact HB.out)) hb); clear BK127; clear HB; have HO134 := n0_; have BK127 := n1_; have HB := n2_; clear n0_ n1_ n2_; clear hb ho11; have hcz12_0 : w10.cell? ⟨gb127, 0, none⟩ = some (.int .i64 a0_0) := (zK BK127.out 0).trans rfl; have hcz12_1 : w10.cell? ⟨gb127, 1, none⟩ = some (.int .i64 a0_1) := (zK BK127.out 1).trans rfl; have hcz12_2 : w10.cell? ⟨gb127, 2, none⟩ = some (.string a0_2) := (zK BK127.out 2).trans rfl; have hfz12_0 := zF BK127.out 0; have hfz12_1 := zF BK127.out 1; have hfz12_2 := zF BK127.out 2) | ((with_reducible refine gate_dst (N := 27) rfl ?_); refine Kd.R_lit (Kd.int .u8) _ 5 ?hg (N := 27) ?hd (xs := ([(wrap64 (Int.tdiv (wrap64 (a0_1 + 10000)) 256)) % 256, (Int.tmod (wrap64 (a0_1 + 10000)) 256) % 256] : List Int)) (inner := [.int .u8 ((wrap64 (Int.tdiv (wrap64 (a0_1 + 10000)) 256)) % 256), .int .u8 ((Int.tmod (wrap64 (a0_1 + 10000)) 256) % 256)]) (ok := fun _ => True) (okp := fun _ => True) ?hr ?hp (fun _ hk => hk) trivial (Below.refl _ _) (Nat.le_refl _) (by simp) ?_; (case hd => rfl); (case hg => rfl); (case hr => first | (go_simp; done) | (go_simp; rfl)); (case hp => exact (Reps.one (show Kd.M (Kd.int .u8) _ _ _ ((wrap64 (Int.tdiv (wrap64 (a0_1 + 10000)) 256)) % 256) [.int .u8 ((wrap64 (Int.tdiv (wrap64 (a0_1 + 10000)) 256)) % 256)] from rfl) (Reps.one (show Kd.M (Kd.int .u8) _ _ _ ((Int.tmod (wrap64 (a0_1 + 10000)) 256) % 256) [.int .u8 ((Int.tmod (wrap64 (a0_1 + 10000)) 256) % 256)] from rfl) (Reps.none _ _)))); intro v136 w13 ho14 hb hg_ hnew_; clear hg_ hnew_; (first | rw [← Ny135.out] at ho14 | (simp only [Int.reduceToNat] at ho14; rw [← Ny135.out] at ho14)); have n0_ := zM (Kd.R_elder' (by (with_reducible repeat (first | apply zR | apply zS | apply zT)); exact HO134.out) (Kd.R_base ho14) hb); have n1_ := zM (Kd.R_lower (Kd.R_new' ho14 (Kd.R_lt (by (with_reducible repeat (first | apply zR | apply zS | apply zT)); exact HO134.out))) (zI (by repeat (first | (with_reducible first | exact HB.out | apply zU | apply zV | apply zW | refine zH ?_ GE127.out) | exact HB.out)))); have n2_ := zM (zJ (g := gb127) (o := .cells #[.int .i64 a0_0, .int .i64 a0_1, .string a0_2] 27 (0, 0)) (by (with_reducible repeat (first | refine zX ?_ _ | refine zY ?_ | refine zZ ?_ _)); exact BK127.out) hb); have n3_ := zM (zG (by repeat (first | (with_reducible first | exact HB.out | apply zU | apply zV | apply zW | refine zH ?_ GE127.out) | exact HB.out)) hb); clear HO134; clear BK127; clear HB; have HO134 := n0_; have HO137 := n1_; have BK127 := n2_; have HB := n3_; clear n0_ n1_ n2_ n3_; clear hb ho14; obtain ⟨Ao16, co16, eo16⟩ := Kd.R_slice HO137.out; subst eo16) | ((with_reducible refine gate_builtin (b := .append) (xs := #[.tmp 16, .tmp 27]) rfl ?_); at_builtin; refine Kd.R_append_rows (Kd.int .u8) (w0 := w) w.heap.size rfl (.tmp 16) (.tmp 27) 25 5 (.int .u8 0) 1 rfl Try.underlying25 info5 rfl (by decide) (by omega) v133 y132 y135 _ _ _ (fun k_ => some k_ ≠ (.slice Ao16 y135.length co16 : Value).ownBlock) (fun _ => False) rfl rfl ?aO ?aR (fun _ _ h => h) (fun _ h => h.elim) ?aF ?aB ?aS ?aL ?_; (case aR => repeat (first | exact (Kd.R_reads' HO137.out).2.2 | (with_reducible refine zQ ?_ _) | (with_reducible refine zO ?_ _) | (with_reducible refine zP ?_))); (case aB => exact (by repeat (first | (with_reducible first | exact HB.out | apply zU | apply zV | apply zW | refine zH ?_ GE127.out) | exact HB.out))); (case aF => exact (fun k_ hk => Kd.fresh' (Kd.R_lt (by (with_reducible repeat (first | apply zR | apply zS | apply zT)); exact HO137.out)) k_ hk)); (case aO => exact (by (with_reducible repeat (first | apply zR | apply zS | apply zT)); exact Kd.R_mono HO134.out (fun _ hk => hk.2))); (case aS => exact (zI (by repeat (first | (with_reducible first | exact HB.out | apply zU | apply zV | apply zW | refine zH ?_ GE127.out) | exact HB.out)))); (case aL => have := LMc5.out; omega); intro v139 w15 ho hb hg hat; rw [← Ny138.out] at ho; have n0_ := zM (blk_grown (g := gb127) (o := .cells #[.int .i64 a0_0, .int .i64 a0_1, .string a0_2] 27 (0, 0)) (by (with_reducible repeat (first | refine zX ?_ _ | refine zY ?_ | refine zZ ?_ _)); exact BK127.out) hg (Kd.R_ne HO134.out BK127.out (by decide))); have n1_ := zM (Kd.R_after (ok := (fun _ => True)) (by (with_reducible repeat (first | apply zR | apply zS | apply zT)); exact HO137.out) hg hat); have n2_ := zM (hb); have n3_ := zM (ho); clear BK127; clear HO137; clear HB; clear HO134; have BK127 := n0_; have HO137 := n1_; have HB := n2_; have HO140 := n3_; clear n0_ n1_ n2_ n3_; clear ho hb hg hat))
    go_ret
    exact ⟨_, by first | rfl | (simp [errW_none, errW_some] <;> rfl) | (simp [*, errW_none, errW_some] <;> rfl), by (with_reducible repeat (first | apply zR | apply zS | apply zT)); exact Kd.R_mono HO140.out (fun _ hk => trivial), by repeat (first | (with_reducible first | exact HB.out | apply zU | apply zV | apply zW | refine zH ?_ GE127.out) | exact HB.out)⟩
   ·
    rw [if_neg c5] at H
    exact absurd H (by simp)
  ·
   rw [if_neg c4] at H
   have c4b0 : (a0_0 == 1) = false := beq_eq_false_iff_ne.mpr c4
   have c4b1 : (a0_0 != 1) = true := bne_iff_ne.mpr c4
   by_cases c17 : a0_0 = 2
   ·
    rw [if_pos c17] at H
    have c17b0 : (a0_0 == 2) = true := beq_iff_eq.mpr c17
    have c17b1 : (a0_0 != 2) = false := bne_eq_false_iff_eq.mpr c17
    clear c17
    by_cases c18 : y132.length < 140737488355328
    ·
     rw [if_pos c18] at H
     have LMc18 := zM c18
     clear c18
     obtain ⟨y141, hy141⟩ : ∃ y_ : List Int, y_ = (y132 ++ [((a0_2.size : Int)) % 256]) := ⟨_, rfl⟩
     replace H : (if y141.length + a0_2.size < 140737488355328 then (some (y141 ++ bytesOf a0_2)) else (none)) = some r := by first | (rw [hy141]; with_reducible exact H) | (have H2_ := (Option.bind_some _ _).symm.trans H; rw [hy141]; with_reducible exact H2_) | (have H2_ := (Option.bind_some _ _).symm.trans H; with_reducible exact H2_) | with_reducible exact H | (rw [hy141]; exact H) | exact H
     have Ny141 := zM hy141
     clear hy141
     by_cases c19 : y141.length + a0_2.size < 140737488355328
     ·
      rw [if_pos c19] at H
      have LMc19 := zM c19
      clear c19
      obtain ⟨y144, hy144⟩ : ∃ y_ : List Int, y_ = (y141 ++ bytesOf a0_2) := ⟨_, rfl⟩
      replace H : (some y144) = some r := by first | (rw [hy144]; with_reducible exact H) | (have H2_ := (Option.bind_some _ _).symm.trans H; rw [hy144]; with_reducible exact H2_) | (have H2_ := (Option.bind_some _ _).symm.trans H; with_reducible exact H2_) | with_reducible exact H | (rw [hy144]; exact H) | exact H
      have Ny144 := zM hy144
      clear hy144
      obtain rfl := Option.some.inj H
      go_enter Try.func16, Try.ntmps16
      try go_wp2_with (first | ((with_reducible refine gate_dst (N := 1) rfl ?_); refine box_event ?hg (N := 1) ?hd (cs := #[.int .i64 a0_0, .int .i64 a0_1, .string a0_2]) (t := 27) ?hr ?_; (case hd => rfl); (case hg => rfl); (case hr => first | (go_simp; done) | (go_simp; rfl)); intro gb127 hg w20 hbox hb; have n0_ := zM (zG (by repeat (first | (with_reducible first | exact HB.out | apply zU | apply zV | apply zW) | exact HB.out)) hb); have n1_ := zM (hbox); have n2_ := zM ((by rw [hg]; exact (zI (by repeat (first | (with_reducible first | exact HB.out | apply zU | apply zV | apply zW) | exact HB.out))) : w.heap.size ≤ gb127)); have n3_ := zM ((by rw [hg]; exact (zI (by repeat (first | (with_reducible first | exact HB.out | apply zU | apply zV | apply zW) | exact HB.out))) : w.heap.size ≤ gb127)); clear HB; have HB := n0_; have BK127 := n1_; have GW127 := n2_; have GE127 := n3_; clear n0_ n1_ n2_ n3_; clear hb hbox hg; have hcz21_0 : w20.cell? ⟨gb127, 0, none⟩ = some (.int .i64 a0_0) := (zK BK127.out 0).trans rfl; have hcz21_1 : w20.cell? ⟨gb127, 1, none⟩ = some (.int .i64 a0_1) := (zK BK127.out 1).trans rfl; have hcz21_2 : w20.cell? ⟨gb127, 2, none⟩ = some (.string a0_2) := (zK BK127.out 2).trans rfl; have hfz21_0 := zF BK127.out 0; have hfz21_1 := zF BK127.out 1; have hfz21_2 := zF BK127.out 2) | ((with_reducible refine gate_callee (f := 45) rfl ?_); refine goesL_ (some 5) rfl rfl Try.func45 (by kernel_rfl) rfl #[.agg #[.int .i64 a0_0, .int .i64 a0_1, .string a0_2]] rfl (by (try simp only [List.map_toArray, List.map_cons, List.map_nil]); first | done | rfl | (simp only [List.length_drop, List.length_take]; rfl)) ?_; (with_reducible refine (spec_ValueOk.calls k a0_0 a0_1 a0_2 true _ A2.out).mono ?_); rintro e w22 ⟨rfl, hb⟩; refine ⟨_, rfl, ?_⟩; have n0_ := zM (zJ (g := gb127) (o := .cells #[.int .i64 a0_0, .int .i64 a0_1, .string a0_2] 27 (0, 0)) (by (with_reducible repeat (first | refine zX ?_ _ | refine zY ?_ | refine zZ ?_ _)); exact BK127.out) hb); have n1_ := zM (zG (by repeat (first | (with_reducible first | exact HB.out | apply zU | apply zV | apply zW | refine zH ?_ GE127.out) | exact HB.out)) hb); clear BK127; clear HB; have BK127 := n0_; have HB := n1_; clear n0_ n1_; (try clear hb); (try clear hb2); (try clear hk); (try clear hi); have hcz23_0 : w22.cell? ⟨gb127, 0, none⟩ = some (.int .i64 a0_0) := (zK BK127.out 0).trans rfl; have hcz23_1 : w22.cell? ⟨gb127, 1, none⟩ = some (.int .i64 a0_1) := (zK BK127.out 1).trans rfl; have hcz23_2 : w22.cell? ⟨gb127, 2, none⟩ = some (.string a0_2) := (zK BK127.out 2).trans rfl; have hfz23_0 := zF BK127.out 0; have hfz23_1 := zF BK127.out 1; have hfz23_2 := zF BK127.out 2) | ((with_reducible refine gate_dst (N := 11) rfl ?_); refine Kd.R_lit (Kd.int .u8) _ 5 ?hg (N := 11) ?hd (xs := ([(a0_0) % 256] : List Int)) (inner := [.int .u8 ((a0_0) % 256)]) (ok := fun _ => True) (okp := fun _ => True) ?hr ?hp (fun _ hk => hk) trivial (Below.refl _ _) (Nat.le_refl _) (by simp) ?_; (case hd => rfl); (case hg => rfl); (case hr => first | (go_simp; done) | (go_simp; rfl)); (case hp => exact (Reps.one (show Kd.M (Kd.int .u8) _ _ _ ((a0_0) % 256) [.int .u8 ((a0_0) % 256)] from rfl) (Reps.none _ _))); intro v133 w24 ho25 hb hg_ hnew_; clear hg_ hnew_; (first | rw [← Ny132.out] at ho25 | (simp only [Int.reduceToNat] at ho25; rw [← Ny132.out] at ho25)); have n0_ := zM (Kd.R_lower ho25 (zI (by repeat (first | (with_reducible first | exact HB.out | apply zU | apply zV | apply zW | refine zH ?_ GE127.out) | exact HB.out)))); have n1_ := zM (zJ (g := gb127) (o := .cells #[.int .i64 a0_0, .int .i64 a0_1, .string a0_2] 27 (0, 0)) (by (with_reducible repeat (first | refine zX ?_ _ | refine zY ?_ | refine zZ ?_ _)); exact BK127.out) hb); have n2_ := zM (zG (by repeat (first | (with_reducible first | exact HB.out | apply zU | apply zV | apply zW | refine zH ?_ GE127.out) | exact HB.out)) hb); clear BK127; clear HB; have HO134 := n0_; have BK127 := n1_; have HB := n2_; clear n0_ n1_ n2_; clear hb ho25; have hcz26_0 : w24.cell? ⟨gb127, 0, none⟩ = some (.int .i64 a0_0) := (zK BK127.out 0).trans rfl; have hcz26_1 : w24.cell? ⟨gb127, 1, none⟩ = some (.int .i64 a0_1) := (zK BK127.out 1).trans rfl; have hcz26_2 : w24.cell? ⟨gb127, 2, none⟩ = some (.string a0_2) := (zK BK127.out 2).trans rfl; have hfz26_0 := zF BK127.out 0; have hfz26_1 := zF BK127.out 1; have hfz26_2 := zF BK127.out 2))
      have n0_ := zM (zT HO134.out)
      have n1_ := zM (zY BK127.out)
      have n2_ := zM (zW HB.out)
      clear HO134
      clear BK127
      clear HB
      have HO134 := n0_
      have BK127 := n1_
      have HB := n2_
      clear n0_ n1_ n2_
      refine start_ (n := 12) (S := fun w' => w'.cell? ⟨gb127, 0, none⟩ = some (.int .i64 a0_0) ∧ w'.cell? ⟨gb127, 1, none⟩ = some (.int .i64 a0_1) ∧ w'.cell? ⟨gb127, 2, none⟩ = some (.string a0_2)) (ds := []) #[ff, ff, ff, ff, ff, ff, ff, ff, ff, ff, ff, ff] (by kernel_rfl) rfl rfl ⟨(zK BK127.out 0).trans rfl, (zK BK127.out 1).trans rfl, (zK BK127.out 2).trans rfl⟩ (fun hHeld => ?_); refine with_tabW spec_ValueBytes.tab8 spec_ValueBytes.bits8 (fun HT_ HW_ => ?_)
      generalize w24.drew = w27 at HO134 BK127 HB hHeld ⊢
      refine pure_ (i := 0) (N := some 31) (v := ?_) (a' := ?_) #[tt, ff, ff, ff, ff, ff, ff, ff, ff, ff, ff, ff] rfl rfl (any_of HT_.out (by kernel_rfl)) (fun _ _ _ h => h) (Or.inl ⟨by rfl, ?_⟩) ?_ ?_
      rotate_left
      ·
       intro w'
       go_simp
       with_reducible rfl
      rotate_left
      ·
       simp only [Act.put, zA, zB, zC, i64_w, i32_w]
       rfl
      refine pure_ (i := 1) (N := some 32) (v := ?_) (a' := ?_) #[tt, tt, ff, ff, ff, ff, ff, ff, ff, ff, ff, ff] rfl rfl (any_of HT_.out (by kernel_rfl)) (fun _ _ _ h => h) (Or.inl ⟨by rfl, ?_⟩) ?_ ?_
      rotate_left
      ·
       intro w'
       go_simp
       with_reducible rfl
      rotate_left
      ·
       simp only [Act.put, zA, zB, zC, i64_w, i32_w]
       rfl
      refine pure_ (i := 7) (N := some 38) (v := ?_) (a' := ?_) #[tt, tt, ff, ff, ff, ff, ff, tt, ff, ff, ff, ff] rfl rfl (any_of HT_.out (by kernel_rfl)) (fun _ _ _ h => h) (Or.inl ⟨by rfl, ?_⟩) ?_ ?_
      rotate_left
      ·
       intro w'
       go_simp
       with_reducible rfl
      rotate_left
      ·
       simp only [Act.put, zA, zB, zC, i64_w, i32_w]
       rfl
      refine take_ (i := 2) (N := some 33) (v := ?_) (a' := ?_) #[tt, tt, tt, ff, ff, ff, ff, tt, ff, ff, ff, ff] rfl rfl (take_ofW HT_.out HW_.out (by kernel_rfl)) (fun _ _ _ h => h) (Or.inl ⟨by rfl, ?_⟩) hHeld ?_ ?_
      rotate_left
      ·
       rintro w' ⟨s0, s1, s2⟩
       go_simp
       with_reducible rfl
      rotate_left
      ·
       simp only [Act.put, zA, zB, zC, i64_w, i32_w]
       rfl
      refine pure_ (i := 3) (N := some 34) (v := ?_) (a' := ?_) #[tt, tt, tt, tt, ff, ff, ff, tt, ff, ff, ff, ff] rfl rfl (any_of HT_.out (by kernel_rfl)) (fun _ _ _ h => h) (Or.inl ⟨by rfl, ?_⟩) ?_ ?_
      rotate_left
      ·
       intro w'
       go_simp
       with_reducible rfl
      rotate_left
      ·
       simp only [Act.put, zA, zB, zC, i64_w, i32_w]
       rfl
      refine pure_ (i := 4) (N := some 35) (v := ?_) (a' := ?_) #[tt, tt, tt, tt, tt, ff, ff, tt, ff, ff, ff, ff] rfl rfl (any_of HT_.out (by kernel_rfl)) (fun _ _ _ h => h) (Or.inl ⟨by rfl, ?_⟩) ?_ ?_
      rotate_left
      ·
       intro w'
       go_simp
       with_reducible rfl
      rotate_left
      ·
       simp only [Act.put, zA, zB, zC, i64_w, i32_w]
       rfl
      refine take_ (i := 8) (N := some 39) (v := ?_) (a' := ?_) #[tt, tt, tt, tt, tt, ff, ff, tt, tt, ff, ff, ff] rfl rfl (take_ofW HT_.out HW_.out (by kernel_rfl)) (fun _ _ _ h => h) (Or.inl ⟨by rfl, ?_⟩) hHeld ?_ ?_
      rotate_left
      ·
       rintro w' ⟨s0, s1, s2⟩
       go_simp
       with_reducible rfl
      rotate_left
      ·
       simp only [Act.put, zA, zB, zC, i64_w, i32_w]
       rfl
      refine two_ (i := 5) (j := 9) (Ni := some 36) (Nj := some 40) #[tt, tt, tt, tt, tt, tt, ff, tt, tt, ff, ff, ff] #[tt, tt, tt, tt, tt, ff, ff, tt, tt, tt, ff, ff] rfl rfl rfl rfl (two_of HT_.out (by kernel_rfl)) (by decide) (by decide) (fun K hK => ?_) (fun K hK => ?_)
      ·
       skip
       refine lies_lit_step ?hg (N := 36) ?hd (x := (((a0_2.size : Int)) % 256)) (e := 5) ?hr ?_; (case hd => rfl); (case hg => rfl); (case hr => first | (go_simp; done) | (go_simp; rfl))
       intro g5 w5 hl5 hg5 hb5
       have n0_ := zM (Kd.R_below HO134.out hb5)
       have n1_ := zM (zJ (g := gb127) (o := .cells #[.int .i64 a0_0, .int .i64 a0_1, .string a0_2] 27 (0, 0)) BK127.out hb5)
       have n2_ := zM (zG HB.out hb5)
       clear HO134
       clear BK127
       clear HB
       have HO134 := n0_
       have BK127 := n1_
       have HB := n2_
       clear n0_ n1_ n2_
       have LL := zM hl5
       clear hl5 hg5 hb5
       refine hK.out _ _ ⟨(zK BK127.out 0).trans rfl, (zK BK127.out 1).trans rfl, (zK BK127.out 2).trans rfl⟩ (fun hHeld => ?_)
       clear hK K
       refine norm_ (a' := ?_) ?_ ?_
       rotate_left
       ·
        show Act.put _ (some 36) _ = _
        simp only [Act.put, zA, zB, zC, i64_w, i32_w]
        rfl
       refine two_ (i := 6) (j := 9) (Ni := some 37) (Nj := some 40) #[tt, tt, tt, tt, tt, tt, tt, tt, tt, ff, ff, ff] #[tt, tt, tt, tt, tt, tt, ff, tt, tt, tt, ff, ff] rfl rfl rfl rfl (two_of HT_.out (by kernel_rfl)) (by decide) (by decide) (fun K hK => ?_) (fun K hK => ?_)
       ·
        skip
        refine Kd.R_append_rows_step (Kd.int .u8) (w0 := w) w.heap.size (by rfl) (.tmp 31) (.tmp 36) 25 5 (.int .u8 0) 1 rfl Try.underlying25 info5 rfl (by decide) (by omega) v133 y132 [((a0_2.size : Int)) % 256] _ _ _ (fun _ => True) (fun _ => False) rfl rfl HO134.out LL.out.now (fun _ _ h => h) (fun _ h => h.elim) (fun _ _ => trivial) HB.out (zI HB.out) (by have := LMc18.out; omega) ?_
        intro v6 w6 ho6 hb6 hg6 hat6
        rw [← Ny141.out] at ho6
        have n0_ := zM (blk_grown (g := gb127) (o := .cells #[.int .i64 a0_0, .int .i64 a0_1, .string a0_2] 27 (0, 0)) BK127.out hg6 (Kd.R_ne HO134.out BK127.out (by decide)))
        have n1_ := zM (hb6)
        clear BK127
        clear HB
        have BK127 := n0_
        have HB := n1_
        clear n0_ n1_
        have HO143 := zM ho6
        clear LL HO134
        clear ho6 hb6 hg6 hat6
        refine hK.out _ _ ⟨(zK BK127.out 0).trans rfl, (zK BK127.out 1).trans rfl, (zK BK127.out 2).trans rfl⟩ (fun hHeld => ?_)
        clear hK K
        refine norm_ (a' := ?_) ?_ ?_
        rotate_left
        ·
         show Act.put _ (some 37) _ = _
         simp only [Act.put, zA, zB, zC, i64_w, i32_w]
         rfl
        refine one_ (i := 9) (N := some 40) #[tt, tt, tt, tt, tt, tt, tt, tt, tt, tt, ff, ff] rfl rfl (one_of HT_.out (by kernel_rfl)) (by decide) (fun K hK => ?_)
        refine lies_conv_step ?hg (N := 40) ?hd 25 9 5 _ rfl Try.underlying9 Try.underlying25 (by kernel_rfl) a0_2 rfl (by have := LMc19.out; omega) ?_; (case hd => rfl); (case hg => rfl)
        intro g9 c9 w9 hl9 hg9 hb9
        have n0_ := zM (Kd.R_below HO143.out hb9)
        have n1_ := zM (zJ (g := gb127) (o := .cells #[.int .i64 a0_0, .int .i64 a0_1, .string a0_2] 27 (0, 0)) BK127.out hb9)
        have n2_ := zM (zG HB.out hb9)
        clear HO143
        clear BK127
        clear HB
        have HO143 := n0_
        have BK127 := n1_
        have HB := n2_
        clear n0_ n1_ n2_
        have LC := zM hl9
        clear hl9 hg9 hb9
        refine hK.out _ _ ⟨(zK BK127.out 0).trans rfl, (zK BK127.out 1).trans rfl, (zK BK127.out 2).trans rfl⟩ (fun hHeld => ?_)
        clear hK K
        refine norm_ (a' := ?_) ?_ ?_
        rotate_left
        ·
         show Act.put _ (some 40) _ = _
         simp only [Act.put, zA, zB, zC, i64_w, i32_w]
         rfl
        refine one_ (i := 10) (N := some 41) #[tt, tt, tt, tt, tt, tt, tt, tt, tt, tt, tt, ff] rfl rfl (one_of HT_.out (by kernel_rfl)) (by decide) (fun K hK => ?_)
        refine Kd.R_append_rows_step (Kd.int .u8) (w0 := w) w.heap.size (by rfl) (.tmp 37) (.tmp 40) 25 5 (.int .u8 0) 1 rfl Try.underlying25 info5 rfl (by decide) (by omega) v6 y141 (bytesOf a0_2) _ _ _ (fun _ => True) (fun _ => False) rfl rfl HO143.out LC.out.now (fun _ _ h => h) (fun _ h => h.elim) (fun _ _ => trivial) HB.out (zI HB.out) (by have := LMc19.out; rw [bytesOf_length]; omega) ?_
        intro v10 w10 ho10 hb10 hg10 hat10
        rw [← Ny144.out] at ho10
        have n0_ := zM (blk_grown (g := gb127) (o := .cells #[.int .i64 a0_0, .int .i64 a0_1, .string a0_2] 27 (0, 0)) BK127.out hg10 (Kd.R_ne HO143.out BK127.out (by decide)))
        have n1_ := zM (hb10)
        clear BK127
        clear HB
        have BK127 := n0_
        have HB := n1_
        clear n0_ n1_
        have HO146 := zM ho10
        clear LC HO143
        clear ho10 hb10 hg10 hat10
        refine hK.out _ _ ⟨(zK BK127.out 0).trans rfl, (zK BK127.out 1).trans rfl, (zK BK127.out 2).trans rfl⟩ (fun hHeld => ?_)
        clear hK K
        refine norm_ (a' := ?_) ?_ ?_
        rotate_left
        ·
         show Act.put _ (some 41) _ = _
         simp only [Act.put, zA, zB, zC, i64_w, i32_w]
         rfl
        refine pure_ (i := 11) (N := some 3) (v := ?_) (a' := ?_) #[tt, tt, tt, tt, tt, tt, tt, tt, tt, tt, tt, tt] rfl rfl (any_of HT_.out (by kernel_rfl)) (fun _ _ _ h => h) (Or.inl ⟨by rfl, ?_⟩) ?_ ?_
        rotate_left
        ·
         intro w'
         go_simp
         with_reducible rfl
        rotate_left
        ·
         simp only [Act.put, zA, zB, zC, i64_w, i32_w]
         rfl
        refine done_ (done_of HT_.out (by kernel_rfl)) ?_
        try go_wp2
        go_ret
        exact ⟨_, by first | rfl | (simp [errW_none, errW_some] <;> rfl) | (simp [*, errW_none, errW_some] <;> rfl), by (with_reducible repeat (first | apply zR | apply zS | apply zT)); exact HO146.out, by repeat (first | (with_reducible first | exact HB.out | apply zU | apply zV | apply zW | refine zH ?_ GE127.out) | exact HB.out)⟩
       ·
        skip
        have hne9 := fun k_ => Kd.R_lt HO134.out k_
        refine lies_conv_step ?hg (N := 40) ?hd 25 9 5 _ rfl Try.underlying9 Try.underlying25 (by kernel_rfl) a0_2 rfl (by have := LMc19.out; omega) ?_; (case hd => rfl); (case hg => rfl)
        intro g9 c9 w9 hl9 hg9 hb9
        have n0_ := zM (Kd.R_below HO134.out hb9)
        have n1_ := zM (zJ (g := gb127) (o := .cells #[.int .i64 a0_0, .int .i64 a0_1, .string a0_2] 27 (0, 0)) BK127.out hb9)
        have n2_ := zM (zG HB.out hb9)
        have n3_ := zM (LL.out.below hb9)
        clear HO134
        clear BK127
        clear HB
        clear LL
        have HO134 := n0_
        have BK127 := n1_
        have HB := n2_
        have LL := n3_
        clear n0_ n1_ n2_ n3_
        have LC := zM hl9
        have NE := zM ((fun he => by have := hne9 g9 he.symm; omega) : some g9 ≠ v133.ownBlock)
        clear hne9
        clear hl9 hg9 hb9
        refine hK.out _ _ ⟨(zK BK127.out 0).trans rfl, (zK BK127.out 1).trans rfl, (zK BK127.out 2).trans rfl⟩ (fun hHeld => ?_)
        clear hK K
        refine norm_ (a' := ?_) ?_ ?_
        rotate_left
        ·
         show Act.put _ (some 40) _ = _
         simp only [Act.put, zA, zB, zC, i64_w, i32_w]
         rfl
        refine one_ (i := 6) (N := some 37) #[tt, tt, tt, tt, tt, tt, tt, tt, tt, tt, ff, ff] rfl rfl (one_of HT_.out (by kernel_rfl)) (by decide) (fun K hK => ?_)
        refine Kd.R_append_rows_step (Kd.int .u8) (w0 := w) w.heap.size (by rfl) (.tmp 31) (.tmp 36) 25 5 (.int .u8 0) 1 rfl Try.underlying25 info5 rfl (by decide) (by omega) v133 y132 [((a0_2.size : Int)) % 256] _ _ _ (fun _ => True) (fun _ => False) rfl rfl HO134.out LL.out.now (fun _ _ h => h) (fun _ h => h.elim) (fun _ _ => trivial) HB.out (zI HB.out) (by have := LMc18.out; omega) ?_
        intro v6 w6 ho6 hb6 hg6 hat6
        rw [← Ny141.out] at ho6
        have n0_ := zM (blk_grown (g := gb127) (o := .cells #[.int .i64 a0_0, .int .i64 a0_1, .string a0_2] 27 (0, 0)) BK127.out hg6 (Kd.R_ne HO134.out BK127.out (by decide)))
        have n1_ := zM (hb6)
        have n2_ := zM (LC.out.grown hg6 NE.out)
        clear BK127
        clear HB
        clear LC
        have BK127 := n0_
        have HB := n1_
        have LC := n2_
        clear n0_ n1_ n2_
        have HO143 := zM ho6
        clear LL HO134
        clear ho6 hb6 hg6 hat6
        refine hK.out _ _ ⟨(zK BK127.out 0).trans rfl, (zK BK127.out 1).trans rfl, (zK BK127.out 2).trans rfl⟩ (fun hHeld => ?_)
        clear hK K
        refine norm_ (a' := ?_) ?_ ?_
        rotate_left
        ·
         show Act.put _ (some 37) _ = _
         simp only [Act.put, zA, zB, zC, i64_w, i32_w]
         rfl
        refine one_ (i := 10) (N := some 41) #[tt, tt, tt, tt, tt, tt, tt, tt, tt, tt, tt, ff] rfl rfl (one_of HT_.out (by kernel_rfl)) (by decide) (fun K hK => ?_)
        refine Kd.R_append_rows_step (Kd.int .u8) (w0 := w) w.heap.size (by rfl) (.tmp 37) (.tmp 40) 25 5 (.int .u8 0) 1 rfl Try.underlying25 info5 rfl (by decide) (by omega) v6 y141 (bytesOf a0_2) _ _ _ (fun _ => True) (fun _ => False) rfl rfl HO143.out LC.out.now (fun _ _ h => h) (fun _ h => h.elim) (fun _ _ => trivial) HB.out (zI HB.out) (by have := LMc19.out; rw [bytesOf_length]; omega) ?_
        intro v10 w10 ho10 hb10 hg10 hat10
        rw [← Ny144.out] at ho10
        have n0_ := zM (blk_grown (g := gb127) (o := .cells #[.int .i64 a0_0, .int .i64 a0_1, .string a0_2] 27 (0, 0)) BK127.out hg10 (Kd.R_ne HO143.out BK127.out (by decide)))
        have n1_ := zM (hb10)
        clear BK127
        clear HB
        have BK127 := n0_
        have HB := n1_
        clear n0_ n1_
        have HO146 := zM ho10
        clear LC HO143
        clear ho10 hb10 hg10 hat10
        refine hK.out _ _ ⟨(zK BK127.out 0).trans rfl, (zK BK127.out 1).trans rfl, (zK BK127.out 2).trans rfl⟩ (fun hHeld => ?_)
        clear hK K
        refine norm_ (a' := ?_) ?_ ?_
        rotate_left
        ·
         show Act.put _ (some 41) _ = _
         simp only [Act.put, zA, zB, zC, i64_w, i32_w]
         rfl
        refine pure_ (i := 11) (N := some 3) (v := ?_) (a' := ?_) #[tt, tt, tt, tt, tt, tt, tt, tt, tt, tt, tt, tt] rfl rfl (any_of HT_.out (by kernel_rfl)) (fun _ _ _ h => h) (Or.inl ⟨by rfl, ?_⟩) ?_ ?_
        rotate_left
        ·
         intro w'
         go_simp
         with_reducible rfl
        rotate_left
        ·
         simp only [Act.put, zA, zB, zC, i64_w, i32_w]
         rfl
        refine done_ (done_of HT_.out (by kernel_rfl)) ?_
        try go_wp2
        go_ret
        exact ⟨_, by first | rfl | (simp [errW_none, errW_some] <;> rfl) | (simp [*, errW_none, errW_some] <;> rfl), by (with_reducible repeat (first | apply zR | apply zS | apply zT)); exact HO146.out, by repeat (first | (with_reducible first | exact HB.out | apply zU | apply zV | apply zW | refine zH ?_ GE127.out) | exact HB.out)⟩
      ·
       skip
       have hne9 := fun k_ => Kd.R_lt HO134.out k_
       refine lies_conv_step ?hg (N := 40) ?hd 25 9 5 _ rfl Try.underlying9 Try.underlying25 (by kernel_rfl) a0_2 rfl (by have := LMc19.out; omega) ?_; (case hd => rfl); (case hg => rfl)
       intro g9 c9 w9 hl9 hg9 hb9
       have n0_ := zM (Kd.R_below HO134.out hb9)
       have n1_ := zM (zJ (g := gb127) (o := .cells #[.int .i64 a0_0, .int .i64 a0_1, .string a0_2] 27 (0, 0)) BK127.out hb9)
       have n2_ := zM (zG HB.out hb9)
       clear HO134
       clear BK127
       clear HB
       have HO134 := n0_
       have BK127 := n1_
       have HB := n2_
       clear n0_ n1_ n2_
       have LC := zM hl9
       have NE := zM ((fun he => by have := hne9 g9 he.symm; omega) : some g9 ≠ v133.ownBlock)
       clear hne9
       clear hl9 hg9 hb9
       refine hK.out _ _ ⟨(zK BK127.out 0).trans rfl, (zK BK127.out 1).trans rfl, (zK BK127.out 2).trans rfl⟩ (fun hHeld => ?_)
       clear hK K
       refine norm_ (a' := ?_) ?_ ?_
       rotate_left
       ·
        show Act.put _ (some 40) _ = _
        simp only [Act.put, zA, zB, zC, i64_w, i32_w]
        rfl
       refine one_ (i := 5) (N := some 36) #[tt, tt, tt, tt, tt, tt, ff, tt, tt, tt, ff, ff] rfl rfl (one_of HT_.out (by kernel_rfl)) (by decide) (fun K hK => ?_)
       refine lies_lit_step ?hg (N := 36) ?hd (x := (((a0_2.size : Int)) % 256)) (e := 5) ?hr ?_; (case hd => rfl); (case hg => rfl); (case hr => first | (go_simp; done) | (go_simp; rfl))
       intro g5 w5 hl5 hg5 hb5
       have n0_ := zM (Kd.R_below HO134.out hb5)
       have n1_ := zM (zJ (g := gb127) (o := .cells #[.int .i64 a0_0, .int .i64 a0_1, .string a0_2] 27 (0, 0)) BK127.out hb5)
       have n2_ := zM (zG HB.out hb5)
       have n3_ := zM (LC.out.below hb5)
       clear HO134
       clear BK127
       clear HB
       clear LC
       have HO134 := n0_
       have BK127 := n1_
       have HB := n2_
       have LC := n3_
       clear n0_ n1_ n2_ n3_
       have LL := zM hl5
       clear hl5 hg5 hb5
       refine hK.out _ _ ⟨(zK BK127.out 0).trans rfl, (zK BK127.out 1).trans rfl, (zK BK127.out 2).trans rfl⟩ (fun hHeld => ?_)
       clear hK K
       refine norm_ (a' := ?_) ?_ ?_
       rotate_left
       ·
        show Act.put _ (some 36) _ = _
        simp only [Act.put, zA, zB, zC, i64_w, i32_w]
        rfl
       refine one_ (i := 6) (N := some 37) #[tt, tt, tt, tt, tt, tt, tt, tt, tt, tt, ff, ff] rfl rfl (one_of HT_.out (by kernel_rfl)) (by decide) (fun K hK => ?_)
       refine Kd.R_append_rows_step (Kd.int .u8) (w0 := w) w.heap.size (by rfl) (.tmp 31) (.tmp 36) 25 5 (.int .u8 0) 1 rfl Try.underlying25 info5 rfl (by decide) (by omega) v133 y132 [((a0_2.size : Int)) % 256] _ _ _ (fun _ => True) (fun _ => False) rfl rfl HO134.out LL.out.now (fun _ _ h => h) (fun _ h => h.elim) (fun _ _ => trivial) HB.out (zI HB.out) (by have := LMc18.out; omega) ?_
       intro v6 w6 ho6 hb6 hg6 hat6
       rw [← Ny141.out] at ho6
       have n0_ := zM (blk_grown (g := gb127) (o := .cells #[.int .i64 a0_0, .int .i64 a0_1, .string a0_2] 27 (0, 0)) BK127.out hg6 (Kd.R_ne HO134.out BK127.out (by decide)))
       have n1_ := zM (hb6)
       have n2_ := zM (LC.out.grown hg6 NE.out)
       clear BK127
       clear HB
       clear LC
       have BK127 := n0_
       have HB := n1_
       have LC := n2_
       clear n0_ n1_ n2_
       have HO143 := zM ho6
       clear LL HO134
       clear ho6 hb6 hg6 hat6
       refine hK.out _ _ ⟨(zK BK127.out 0).trans rfl, (zK BK127.out 1).trans rfl, (zK BK127.out 2).trans rfl⟩ (fun hHeld => ?_)
       clear hK K
       refine norm_ (a' := ?_) ?_ ?_
       rotate_left
       ·
        show Act.put _ (some 37) _ = _
        simp only [Act.put, zA, zB, zC, i64_w, i32_w]
        rfl
       refine one_ (i := 10) (N := some 41) #[tt, tt, tt, tt, tt, tt, tt, tt, tt, tt, tt, ff] rfl rfl (one_of HT_.out (by kernel_rfl)) (by decide) (fun K hK => ?_)
       refine Kd.R_append_rows_step (Kd.int .u8) (w0 := w) w.heap.size (by rfl) (.tmp 37) (.tmp 40) 25 5 (.int .u8 0) 1 rfl Try.underlying25 info5 rfl (by decide) (by omega) v6 y141 (bytesOf a0_2) _ _ _ (fun _ => True) (fun _ => False) rfl rfl HO143.out LC.out.now (fun _ _ h => h) (fun _ h => h.elim) (fun _ _ => trivial) HB.out (zI HB.out) (by have := LMc19.out; rw [bytesOf_length]; omega) ?_
       intro v10 w10 ho10 hb10 hg10 hat10
       rw [← Ny144.out] at ho10
       have n0_ := zM (blk_grown (g := gb127) (o := .cells #[.int .i64 a0_0, .int .i64 a0_1, .string a0_2] 27 (0, 0)) BK127.out hg10 (Kd.R_ne HO143.out BK127.out (by decide)))
       have n1_ := zM (hb10)
       clear BK127
       clear HB
       have BK127 := n0_
       have HB := n1_
       clear n0_ n1_
       have HO146 := zM ho10
       clear LC HO143
       clear ho10 hb10 hg10 hat10
       refine hK.out _ _ ⟨(zK BK127.out 0).trans rfl, (zK BK127.out 1).trans rfl, (zK BK127.out 2).trans rfl⟩ (fun hHeld => ?_)
       clear hK K
       refine norm_ (a' := ?_) ?_ ?_
       rotate_left
       ·
        show Act.put _ (some 41) _ = _
        simp only [Act.put, zA, zB, zC, i64_w, i32_w]
        rfl
       refine pure_ (i := 11) (N := some 3) (v := ?_) (a' := ?_) #[tt, tt, tt, tt, tt, tt, tt, tt, tt, tt, tt, tt] rfl rfl (any_of HT_.out (by kernel_rfl)) (fun _ _ _ h => h) (Or.inl ⟨by rfl, ?_⟩) ?_ ?_
       rotate_left
       ·
        intro w'
        go_simp
        with_reducible rfl
       rotate_left
       ·
        simp only [Act.put, zA, zB, zC, i64_w, i32_w]
        rfl
       refine done_ (done_of HT_.out (by kernel_rfl)) ?_
       try go_wp2
       go_ret
       exact ⟨_, by first | rfl | (simp [errW_none, errW_some] <;> rfl) | (simp [*, errW_none, errW_some] <;> rfl), by (with_reducible repeat (first | apply zR | apply zS | apply zT)); exact HO146.out, by repeat (first | (with_reducible first | exact HB.out | apply zU | apply zV | apply zW | refine zH ?_ GE127.out) | exact HB.out)⟩
     ·
      rw [if_neg c19] at H
      exact absurd H (by simp)
    ·
     rw [if_neg c18] at H
     exact absurd H (by simp)
   ·
    rw [if_neg c17] at H
    have c17b0 : (a0_0 == 2) = false := beq_eq_false_iff_ne.mpr c17
    have c17b1 : (a0_0 != 2) = true := bne_iff_ne.mpr c17
    by_cases c30 : a0_0 = 3
    ·
     rw [if_pos c30] at H
     have c30b0 : (a0_0 == 3) = true := beq_iff_eq.mpr c30
     have c30b1 : (a0_0 != 3) = false := bne_eq_false_iff_eq.mpr c30
     clear c30
     by_cases c31 : y132.length < 140737488355328
     ·
      rw [if_pos c31] at H
      have LMc31 := zM c31
      clear c31
      obtain ⟨y147, hy147⟩ : ∃ y_ : List Int, y_ = (y132 ++ [(a0_1) % 256]) := ⟨_, rfl⟩
      replace H : (some y147) = some r := by first | (rw [hy147]; with_reducible exact H) | (have H2_ := (Option.bind_some _ _).symm.trans H; rw [hy147]; with_reducible exact H2_) | (have H2_ := (Option.bind_some _ _).symm.trans H; with_reducible exact H2_) | with_reducible exact H | (rw [hy147]; exact H) | exact H
      have Ny147 := zM hy147
      clear hy147
      obtain rfl := Option.some.inj H
      go_enter Try.func16, Try.ntmps16
      go_wp2_with (first | ((with_reducible refine gate_dst (N := 1) rfl ?_); refine box_event ?hg (N := 1) ?hd (cs := #[.int .i64 a0_0, .int .i64 a0_1, .string a0_2]) (t := 27) ?hr ?_; (case hd => rfl); (case hg => rfl); (case hr => first | (go_simp; done) | (go_simp; rfl)); intro gb127 hg w32 hbox hb; have n0_ := zM (zG (by repeat (first | (with_reducible first | exact HB.out | apply zU | apply zV | apply zW) | exact HB.out)) hb); have n1_ := zM (hbox); have n2_ := zM ((by rw [hg]; exact (zI (by repeat (first | (with_reducible first | exact HB.out | apply zU | apply zV | apply zW) | exact HB.out))) : w.heap.size ≤ gb127)); have n3_ := zM ((by rw [hg]; exact (zI (by repeat (first | (with_reducible first | exact HB.out | apply zU | apply zV | apply zW) | exact HB.out))) : w.heap.size ≤ gb127)); clear HB; have HB := n0_; have BK127 := n1_; have GW127 := n2_; have GE127 := n3_; clear n0_ n1_ n2_ n3_; clear hb hbox hg; have hcz33_0 : w32.cell? ⟨gb127, 0, none⟩ = some (.int .i64 a0_0) := (zK BK127.out 0).trans rfl; have hcz33_1 : w32.cell? ⟨gb127, 1, none⟩ = some (.int .i64 a0_1) := (zK BK127.out 1).trans rfl; have hcz33_2 : w32.cell? ⟨gb127, 2, none⟩ = some (.string a0_2) := (zK BK127.out 2).trans rfl; have hfz33_0 := zF BK127.out 0; have hfz33_1 := zF BK127.out 1; have hfz33_2 := zF BK127.out 2) | ((with_reducible refine gate_callee (f := 45) rfl ?_); refine goesL_ (some 5) rfl rfl Try.func45 (by kernel_rfl) rfl #[.agg #[.int .i64 a0_0, .int .i64 a0_1, .string a0_2]] rfl (by (try simp only [List.map_toArray, List.map_cons, List.map_nil]); first | done | rfl | (simp only [List.length_drop, List.length_take]; rfl)) ?_; (with_reducible refine (spec_ValueOk.calls k a0_0 a0_1 a0_2 true _ A2.out).mono ?_); rintro e w34 ⟨rfl, hb⟩; refine ⟨_, rfl, ?_⟩; have n0_ := zM (zJ (g := gb127) (o := .cells #[.int .i64 a0_0, .int .i64 a0_1, .string a0_2] 27 (0, 0)) (by (with_reducible repeat (first | refine zX ?_ _ | refine zY ?_ | refine zZ ?_ _)); exact BK127.out) hb); have n1_ := zM (zG (by repeat (first | (with_reducible first | exact HB.out | apply zU | apply zV | apply zW | refine zH ?_ GE127.out) | exact HB.out)) hb); clear BK127; clear HB; have BK127 := n0_; have HB := n1_; clear n0_ n1_; (try clear hb); (try clear hb2); (try clear hk); (try clear hi); have hcz35_0 : w34.cell? ⟨gb127, 0, none⟩ = some (.int .i64 a0_0) := (zK BK127.out 0).trans rfl; have hcz35_1 : w34.cell? ⟨gb127, 1, none⟩ = some (.int .i64 a0_1) := (zK BK127.out 1).trans rfl; have hcz35_2 : w34.cell? ⟨gb127, 2, none⟩ = some (.string a0_2) := (zK BK127.out 2).trans rfl; have hfz35_0 := zF BK127.out 0; have hfz35_1 := zF BK127.out 1; have hfz35_2 := zF BK127.out 2) | ((with_reducible refine gate_dst (N := 11) rfl ?_); refine Kd.R_lit (Kd.int .u8) _ 5 ?hg (N := 11) ?hd (xs := ([(a0_0) % 256] : List Int)) (inner := [.int .u8 ((a0_0) % 256)]) (ok := fun _ => True) (okp := fun _ => True) ?hr ?hp (fun _ hk => hk) trivial (Below.refl _ _) (Nat.le_refl _) (by simp) ?_; (case hd => rfl); (case hg => rfl); (case hr => first | (go_simp; done) | (go_simp; rfl)); (case hp => exact (Reps.one (show Kd.M (Kd.int .u8) _ _ _ ((a0_0) % 256) [.int .u8 ((a0_0) % 256)] from rfl) (Reps.none _ _))); intro v133 w36 ho37 hb hg_ hnew_; clear hg_ hnew_; (first | rw [← Ny132.out] at ho37 | (simp only [Int.reduceToNat] at ho37; rw [← Ny132.out] at ho37)); have n0_ := zM (Kd.R_lower ho37 (zI (by repeat (first | (with_reducible first | exact HB.out | apply zU | apply zV | apply zW | refine zH ?_ GE127.out) | exact HB.out)))); have n1_ := zM (zJ (g := gb127) (o := .cells #[.int .i64 a0_0, .int .i64 a0_1, .string a0_2] 27 (0, 0)) (by (with_reducible repeat (first | refine zX ?_ _ | refine zY ?_ | refine zZ ?_ _)); exact BK127.out) hb); have n2_ := zM (zG (by repeat (first | (with_reducible first | exact HB.out | apply zU | apply zV | apply zW | refine zH ?_ GE127.out) | exact HB.out)) hb); clear BK127; clear HB; have HO134 := n0_; have BK127 := n1_; have HB := n2_; clear n0_ n1_ n2_; clear hb ho37; have hcz38_0 : w36.cell? ⟨gb127, 0, none⟩ = some (.int .i64 a0_0) := (zK BK127.out 0).trans rfl; have hcz38_1 : w36.cell? ⟨gb127, 1, none⟩ = some (.int .i64 a0_1) := (zK BK127.out 1).trans rfl; have hcz38_2 : w36.cell? ⟨gb127, 2, none⟩ = some (.string a0_2) := (zK BK127.out 2).trans rfl; have hfz38_0 := zF BK127.out 0; have hfz38_1 := zF BK127.out 1; have hfz38_2 := zF BK127.out 2) | ((with_reducible refine gate_builtin (b := .append) (xs := #[.tmp 44, .tmp 48]) rfl ?_); at_builtin; refine Kd.R_append (Kd.int .u8) (w0 := w) w.heap.size rfl (.tmp 44) (.tmp 48) 25 5 (.int .u8 0) 1 rfl Try.underlying25 info5 rfl (by decide) (by omega) v133 y132 ((a0_1) % 256) [.int .u8 ((a0_1) % 256)] (fun _ => True) (fun _ => False) rfl rfl ?aP (fun _ hk => hk.elim) ?aF ?aO ?aB ?aS ?aL ?_; (case aP => exact rfl); (case aB => exact (by repeat (first | (with_reducible first | exact HB.out | apply zU | apply zV | apply zW | refine zH ?_ GE127.out) | exact HB.out))); (case aF => exact (fun _ _ => trivial)); (case aO => exact (by (with_reducible repeat (first | apply zR | apply zS | apply zT)); exact HO134.out)); (case aS => exact (zI (by repeat (first | (with_reducible first | exact HB.out | apply zU | apply zV | apply zW | refine zH ?_ GE127.out) | exact HB.out)))); (case aL => have := LMc31.out; omega); intro v148 w39 ho hb hg hat; rw [← Ny147.out] at ho; have n0_ := zM (blk_grown (g := gb127) (o := .cells #[.int .i64 a0_0, .int .i64 a0_1, .string a0_2] 27 (0, 0)) (by (with_reducible repeat (first | refine zX ?_ _ | refine zY ?_ | refine zZ ?_ _)); exact BK127.out) hg (Kd.R_ne HO134.out BK127.out (by decide))); have n1_ := zM (hb); have n2_ := zM (ho); clear BK127; clear HB; clear HO134; have BK127 := n0_; have HB := n1_; have HO149 := n2_; clear n0_ n1_ n2_; clear ho hb hg hat))
      go_ret
      exact ⟨_, by first | rfl | (simp [errW_none, errW_some] <;> rfl) | (simp [*, errW_none, errW_some] <;> rfl), by (with_reducible repeat (first | apply zR | apply zS | apply zT)); exact HO149.out, by repeat (first | (with_reducible first | exact HB.out | apply zU | apply zV | apply zW | refine zH ?_ GE127.out) | exact HB.out)⟩
     ·
      rw [if_neg c31] at H
      exact absurd H (by simp)
    ·
     rw [if_neg c30] at H
     have c30b0 : (a0_0 == 3) = false := beq_eq_false_iff_ne.mpr c30
     have c30b1 : (a0_0 != 3) = true := bne_iff_ne.mpr c30
     obtain rfl := Option.some.inj H
     go_enter Try.func16, Try.ntmps16
     go_wp2_with (first | ((with_reducible refine gate_dst (N := 1) rfl ?_); refine box_event ?hg (N := 1) ?hd (cs := #[.int .i64 a0_0, .int .i64 a0_1, .string a0_2]) (t := 27) ?hr ?_; (case hd => rfl); (case hg => rfl); (case hr => first | (go_simp; done) | (go_simp; rfl)); intro gb127 hg w40 hbox hb; have n0_ := zM (zG (by repeat (first | (with_reducible first | exact HB.out | apply zU | apply zV | apply zW) | exact HB.out)) hb); have n1_ := zM (hbox); have n2_ := zM ((by rw [hg]; exact (zI (by repeat (first | (with_reducible first | exact HB.out | apply zU | apply zV | apply zW) | exact HB.out))) : w.heap.size ≤ gb127)); have n3_ := zM ((by rw [hg]; exact (zI (by repeat (first | (with_reducible first | exact HB.out | apply zU | apply zV | apply zW) | exact HB.out))) : w.heap.size ≤ gb127)); clear HB; have HB := n0_; have BK127 := n1_; have GW127 := n2_; have GE127 := n3_; clear n0_ n1_ n2_ n3_; clear hb hbox hg; have hcz41_0 : w40.cell? ⟨gb127, 0, none⟩ = some (.int .i64 a0_0) := (zK BK127.out 0).trans rfl; have hcz41_1 : w40.cell? ⟨gb127, 1, none⟩ = some (.int .i64 a0_1) := (zK BK127.out 1).trans rfl; have hcz41_2 : w40.cell? ⟨gb127, 2, none⟩ = some (.string a0_2) := (zK BK127.out 2).trans rfl; have hfz41_0 := zF BK127.out 0; have hfz41_1 := zF BK127.out 1; have hfz41_2 := zF BK127.out 2) | ((with_reducible refine gate_callee (f := 45) rfl ?_); refine goesL_ (some 5) rfl rfl Try.func45 (by kernel_rfl) rfl #[.agg #[.int .i64 a0_0, .int .i64 a0_1, .string a0_2]] rfl (by (try simp only [List.map_toArray, List.map_cons, List.map_nil]); first | done | rfl | (simp only [List.length_drop, List.length_take]; rfl)) ?_; (with_reducible refine (spec_ValueOk.calls k a0_0 a0_1 a0_2 true _ A2.out).mono ?_); rintro e w42 ⟨rfl, hb⟩; refine ⟨_, rfl, ?_⟩; have n0_ := zM (zJ (g := gb127) (o := .cells #[.int .i64 a0_0, .int .i64 a0_1, .string a0_2] 27 (0, 0)) (by (with_reducible repeat (first | refine zX ?_ _ | refine zY ?_ | refine zZ ?_ _)); exact BK127.out) hb); have n1_ := zM (zG (by repeat (first | (with_reducible first | exact HB.out | apply zU | apply zV | apply zW | refine zH ?_ GE127.out) | exact HB.out)) hb); clear BK127; clear HB; have BK127 := n0_; have HB := n1_; clear n0_ n1_; (try clear hb); (try clear hb2); (try clear hk); (try clear hi); have hcz43_0 : w42.cell? ⟨gb127, 0, none⟩ = some (.int .i64 a0_0) := (zK BK127.out 0).trans rfl; have hcz43_1 : w42.cell? ⟨gb127, 1, none⟩ = some (.int .i64 a0_1) := (zK BK127.out 1).trans rfl; have hcz43_2 : w42.cell? ⟨gb127, 2, none⟩ = some (.string a0_2) := (zK BK127.out 2).trans rfl; have hfz43_0 := zF BK127.out 0; have hfz43_1 := zF BK127.out 1; have hfz43_2 := zF BK127.out 2) | ((with_reducible refine gate_dst (N := 11) rfl ?_); refine Kd.R_lit (Kd.int .u8) _ 5 ?hg (N := 11) ?hd (xs := ([(a0_0) % 256] : List Int)) (inner := [.int .u8 ((a0_0) % 256)]) (ok := fun _ => True) (okp := fun _ => True) ?hr ?hp (fun _ hk => hk) trivial (Below.refl _ _) (Nat.le_refl _) (by simp) ?_; (case hd => rfl); (case hg => rfl); (case hr => first | (go_simp; done) | (go_simp; rfl)); (case hp => exact (Reps.one (show Kd.M (Kd.int .u8) _ _ _ ((a0_0) % 256) [.int .u8 ((a0_0) % 256)] from rfl) (Reps.none _ _))); intro v133 w44 ho45 hb hg_ hnew_; clear hg_ hnew_; (first | rw [← Ny132.out] at ho45 | (simp only [Int.reduceToNat] at ho45; rw [← Ny132.out] at ho45)); have n0_ := zM (Kd.R_lower ho45 (zI (by repeat (first | (with_reducible first | exact HB.out | apply zU | apply zV | apply zW | refine zH ?_ GE127.out) | exact HB.out)))); have n1_ := zM (zJ (g := gb127) (o := .cells #[.int .i64 a0_0, .int .i64 a0_1, .string a0_2] 27 (0, 0)) (by (with_reducible repeat (first | refine zX ?_ _ | refine zY ?_ | refine zZ ?_ _)); exact BK127.out) hb); have n2_ := zM (zG (by repeat (first | (with_reducible first | exact HB.out | apply zU | apply zV | apply zW | refine zH ?_ GE127.out) | exact HB.out)) hb); clear BK127; clear HB; have HO134 := n0_; have BK127 := n1_; have HB := n2_; clear n0_ n1_ n2_; clear hb ho45; have hcz46_0 : w44.cell? ⟨gb127, 0, none⟩ = some (.int .i64 a0_0) := (zK BK127.out 0).trans rfl; have hcz46_1 : w44.cell? ⟨gb127, 1, none⟩ = some (.int .i64 a0_1) := (zK BK127.out 1).trans rfl; have hcz46_2 : w44.cell? ⟨gb127, 2, none⟩ = some (.string a0_2) := (zK BK127.out 2).trans rfl; have hfz46_0 := zF BK127.out 0; have hfz46_1 := zF BK127.out 1; have hfz46_2 := zF BK127.out 2))
     go_ret
     exact ⟨_, by first | rfl | (simp [errW_none, errW_some] <;> rfl) | (simp [*, errW_none, errW_some] <;> rfl), by (with_reducible repeat (first | apply zR | apply zS | apply zT)); exact HO134.out, by repeat (first | (with_reducible first | exact HB.out | apply zU | apply zV | apply zW | refine zH ?_ GE127.out) | exact HB.out)⟩
 ·
  replace c3 := Bool.eq_false_iff.mpr c3
  subst c3
  have H1 : (some (([] : List Int))) = some r := by rw [if_neg (show ¬ (false = true) by decide)] at H; exact H
  clear H
  have H := H1
  clear H1
  obtain ⟨y129, hy129⟩ : ∃ y_ : List Int, y_ = (([] : List Int)) := ⟨_, rfl⟩
  replace H : (some y129) = some r := by first | (rw [hy129]; with_reducible exact H) | (have H2_ := (Option.bind_some _ _).symm.trans H; rw [hy129]; with_reducible exact H2_) | (have H2_ := (Option.bind_some _ _).symm.trans H; with_reducible exact H2_) | with_reducible exact H | (rw [hy129]; exact H) | exact H
  have Ny129 := zM hy129
  clear hy129
  obtain rfl := Option.some.inj H
  go_enter Try.func16, Try.ntmps16
  go_wp2_with (first | ((with_reducible refine gate_dst (N := 1) rfl ?_); refine box_event ?hg (N := 1) ?hd (cs := #[.int .i64 a0_0, .int .i64 a0_1, .string a0_2]) (t := 27) ?hr ?_; (case hd => rfl); (case hg => rfl); (case hr => first | (go_simp; done) | (go_simp; rfl)); intro gb127 hg w47 hbox hb; have n0_ := zM (zG (by repeat (first | (with_reducible first | exact HB.out | apply zU | apply zV | apply zW) | exact HB.out)) hb); have n1_ := zM (hbox); have n2_ := zM ((by rw [hg]; exact (zI (by repeat (first | (with_reducible first | exact HB.out | apply zU | apply zV | apply zW) | exact HB.out))) : w.heap.size ≤ gb127)); have n3_ := zM ((by rw [hg]; exact (zI (by repeat (first | (with_reducible first | exact HB.out | apply zU | apply zV | apply zW) | exact HB.out))) : w.heap.size ≤ gb127)); clear HB; have HB := n0_; have BK127 := n1_; have GW127 := n2_; have GE127 := n3_; clear n0_ n1_ n2_ n3_; clear hb hbox hg; have hcz48_0 : w47.cell? ⟨gb127, 0, none⟩ = some (.int .i64 a0_0) := (zK BK127.out 0).trans rfl; have hcz48_1 : w47.cell? ⟨gb127, 1, none⟩ = some (.int .i64 a0_1) := (zK BK127.out 1).trans rfl; have hcz48_2 : w47.cell? ⟨gb127, 2, none⟩ = some (.string a0_2) := (zK BK127.out 2).trans rfl; have hfz48_0 := zF BK127.out 0; have hfz48_1 := zF BK127.out 1; have hfz48_2 := zF BK127.out 2) | ((with_reducible refine gate_callee (f := 45) rfl ?_); refine goesL_ (some 5) rfl rfl Try.func45 (by kernel_rfl) rfl #[.agg #[.int .i64 a0_0, .int .i64 a0_1, .string a0_2]] rfl (by (try simp only [List.map_toArray, List.map_cons, List.map_nil]); first | done | rfl | (simp only [List.length_drop, List.length_take]; rfl)) ?_; (with_reducible refine (spec_ValueOk.calls k a0_0 a0_1 a0_2 false _ A2.out).mono ?_); rintro e w49 ⟨rfl, hb⟩; refine ⟨_, rfl, ?_⟩; have n0_ := zM (zJ (g := gb127) (o := .cells #[.int .i64 a0_0, .int .i64 a0_1, .string a0_2] 27 (0, 0)) (by (with_reducible repeat (first | refine zX ?_ _ | refine zY ?_ | refine zZ ?_ _)); exact BK127.out) hb); have n1_ := zM (zG (by repeat (first | (with_reducible first | exact HB.out | apply zU | apply zV | apply zW | refine zH ?_ GE127.out) | exact HB.out)) hb); clear BK127; clear HB; have BK127 := n0_; have HB := n1_; clear n0_ n1_; (try clear hb); (try clear hb2); (try clear hk); (try clear hi)) | ((with_reducible refine gate_dst (N := 7) rfl ?_); refine Kd.R_lit (Kd.int .u8) _ 5 ?hg (N := 7) ?hd (xs := ([] : List Int)) (inner := []) (ok := fun _ => True) (okp := fun _ => True) ?hr ?hp (fun _ hk => hk) trivial (Below.refl _ _) (Nat.le_refl _) (by simp) ?_; (case hd => rfl); (case hg => rfl); (case hr => first | (go_simp; done) | (go_simp; rfl)); (case hp => exact (Reps.none _ _)); intro v130 w50 ho51 hb hg_ hnew_; clear hg_ hnew_; (first | rw [← Ny129.out] at ho51 | (simp only [Int.reduceToNat] at ho51; rw [← Ny129.out] at ho51)); have n0_ := zM (Kd.R_lower ho51 (zI (by repeat (first | (with_reducible first | exact HB.out | apply zU | apply zV | apply zW | refine zH ?_ GE127.out) | exact HB.out)))); have n1_ := zM (zJ (g := gb127) (o := .cells #[.int .i64 a0_0, .int .i64 a0_1, .string a0_2] 27 (0, 0)) (by (with_reducible repeat (first | refine zX ?_ _ | refine zY ?_ | refine zZ ?_ _)); exact BK127.out) hb); have n2_ := zM (zG (by repeat (first | (with_reducible first | exact HB.out | apply zU | apply zV | apply zW | refine zH ?_ GE127.out) | exact HB.out)) hb); clear BK127; clear HB; have HO131 := n0_; have BK127 := n1_; have HB := n2_; clear n0_ n1_ n2_; clear hb ho51))
  go_ret
  exact ⟨_, by first | rfl | (simp [errW_none, errW_some] <;> rfl) | (simp [*, errW_none, errW_some] <;> rfl), by (with_reducible repeat (first | apply zR | apply zS | apply zT)); exact HO131.out, by repeat (first | (with_reducible first | exact HB.out | apply zU | apply zV | apply zW | refine zH ?_ GE127.out) | exact HB.out)⟩
end

section
/-! ### impl_Value_bytes: function 48 -/
def impl_Value_bytes.f (a0_0 : Int) (a0_1 : Int) (a0_2 : ByteArray) : Option (List Int) := (some (([(a0_0) % 256] : List Int) : List Int)).bind fun y158 => (if a0_0 = 1 then ((some (([((wrap64 (a0_1 + 10000)) / 256) % 256, (wrap64 (a0_1 + 10000)) % 256] : List Int) : List Int)).bind fun y161 => (if y158.length + y161.length < 140737488355328 then (some (y158 ++ y161)) else (none))) else (if a0_0 = 2 then (if y158.length < 140737488355328 then ((some (y158 ++ [((a0_2.size : Int)) % 256] : List Int)).bind fun y167 => (if y167.length + a0_2.size < 140737488355328 then (some (y167 ++ bytesOf a0_2)) else (none))) else (none)) else (if a0_0 = 3 then (if y158.length < 140737488355328 then (some (y158 ++ [(a0_1) % 256])) else (none)) else (some y158))))
def impl_Value_bytes.T7 : Bool × List (List Nat × List Nat) := (true, [([], []), ([], []), ([1], [1]), ([2], [2]), ([3], [3]), ([4], [4]), ([0, 5], [0, 5]), ([], []), ([7], [7]), ([6, 8, 6], [6, 8]), ([9, 9, 0, 1, 2, 3, 4, 5, 6, 7, 8, 9], [0, 9])])
def impl_Value_bytes.B7 : List Nat := [0, 0, 2, 6, 14, 30, 63, 0, 128, 511, 1023]
theorem impl_Value_bytes.tab7 : rtab .any (opsOf Try.f48 7) = impl_Value_bytes.T7 := by kernel_rfl
theorem impl_Value_bytes.bits7 : waitsOk impl_Value_bytes.T7.2 impl_Value_bytes.B7 = true := by kernel_rfl
set_option maxHeartbeats 8000000 in
set_option maxRecDepth 100000 in
theorem impl_Value_bytes.calls (a0_0 : Int) (a0_1 : Int) (a0_2 : ByteArray) (r : List Int) (w : World) (h : impl_Value_bytes.f a0_0 a0_1 a0_2 = some r) :
  Calls Try.prog 48 #[.agg #[.int .i64 a0_0, .int .i64 a0_1, .string a0_2]] w fun e w' => ∃ v0_ : Value, e = .returned (v0_) ∧ Kd.R (Kd.int .u8) 5 w' w.heap.size (fun _ => True) v0_ r ∧ Below w.heap.size w w' := by
 have hu27 := Try.underlying27
 have HB := zM (Below.refl w.heap.size w)
 have H : ((some (([(a0_0) % 256] : List Int) : List Int)).bind fun y158 => (if a0_0 = 1 then ((some (([((wrap64 (a0_1 + 10000)) / 256) % 256, (wrap64 (a0_1 + 10000)) % 256] : List Int) : List Int)).bind fun y161 => (if y158.length + y161.length < 140737488355328 then (some (y158 ++ y161)) else (none))) else (if a0_0 = 2 then (if y158.length < 140737488355328 then ((some (y158 ++ [((a0_2.size : Int)) % 256] : List Int)).bind fun y167 => (if y167.length + a0_2.size < 140737488355328 then (some (y167 ++ bytesOf a0_2)) else (none))) else (none)) else (if a0_0 = 3 then (if y158.length < 140737488355328 then (some (y158 ++ [(a0_1) % 256])) else (none)) else (some y158))))) = some r := h
 clear h
 obtain ⟨y158, hy158⟩ : ∃ y_ : List Int, y_ = (([(a0_0) % 256] : List Int)) := ⟨_, rfl⟩
 replace H : (if a0_0 = 1 then ((some (([((wrap64 (a0_1 + 10000)) / 256) % 256, (wrap64 (a0_1 + 10000)) % 256] : List Int) : List Int)).bind fun y161 => (if y158.length + y161.length < 140737488355328 then (some (y158 ++ y161)) else (none))) else (if a0_0 = 2 then (if y158.length < 140737488355328 then ((some (y158 ++ [((a0_2.size : Int)) % 256] : List Int)).bind fun y167 => (if y167.length + a0_2.size < 140737488355328 then (some (y167 ++ bytesOf a0_2)) else (none))) else (none)) else (if a0_0 = 3 then (if y158.length < 140737488355328 then (some (y158 ++ [(a0_1) % 256])) else (none)) else (some y158)))) = some r := by first | (rw [hy158]; with_reducible exact H) | (have H2_ := (Option.bind_some _ _).symm.trans H; rw [hy158]; with_reducible exact H2_) | (have H2_ := (Option.bind_some _ _).symm.trans H; with_reducible exact H2_) | with_reducible exact H | (rw [hy158]; exact H) | exact H
 have Ny158 := zM hy158
 clear hy158
 by_cases c2 : a0_0 = 1
 ·
  rw [if_pos c2] at H
  have c2b0 : (a0_0 == 1) = true := beq_iff_eq.mpr c2
  have c2b1 : (a0_0 != 1) = false := bne_eq_false_iff_eq.mpr c2
  clear c2
  obtain ⟨y161, hy161⟩ : ∃ y_ : List Int, y_ = (([((wrap64 (a0_1 + 10000)) / 256) % 256, (wrap64 (a0_1 + 10000)) % 256] : List Int)) := ⟨_, rfl⟩
  replace H : (if y158.length + y161.length < 140737488355328 then (some (y158 ++ y161)) else (none)) = some r := by first | (rw [hy161]; with_reducible exact H) | (have H2_ := (Option.bind_some _ _).symm.trans H; rw [hy161]; with_reducible exact H2_) | (have H2_ := (Option.bind_some _ _).symm.trans H; with_reducible exact H2_) | with_reducible exact H | (rw [hy161]; exact H) | exact H
  have Ny161 := zM hy161
  clear hy161
  by_cases c3 : y158.length + y161.length < 140737488355328
  ·
   rw [if_pos c3] at H
   have LMc3 := zM c3
   clear c3
   obtain ⟨y164, hy164⟩ : ∃ y_ : List Int, y_ = (y158 ++ y161) := ⟨_, rfl⟩
   replace H : (some y164) = some r := by first | (rw [hy164]; with_reducible exact H) | (have H2_ := (Option.bind_some _ _).symm.trans H; rw [hy164]; with_reducible exact H2_) | (have H2_ := (Option.bind_some _ _).symm.trans H; with_reducible exact H2_) | with_reducible exact H | (rw [hy164]; exact H) | exact H
   have Ny164 := zM hy164
   clear hy164
   obtain rfl := Option.some.inj H
   go_enter Try.func48, Try.ntmps48
   go_wp2_with (first | ((with_reducible refine gate_dst (N := 1) rfl ?_); refine box_event ?hg (N := 1) ?hd (cs := #[.int .i64 a0_0, .int .i64 a0_1, .string a0_2]) (t := 27) ?hr ?_; (case hd => rfl); (case hg => rfl); (case hr => first | (go_simp; done) | (go_simp; rfl)); intro gb157 hg w4 hbox hb; have n0_ := zM (zG (by repeat (first | (with_reducible first | exact HB.out | apply zU | apply zV | apply zW) | exact HB.out)) hb); have n1_ := zM (hbox); have n2_ := zM ((by rw [hg]; exact (zI (by repeat (first | (with_reducible first | exact HB.out | apply zU | apply zV | apply zW) | exact HB.out))) : w.heap.size ≤ gb157)); have n3_ := zM ((by rw [hg]; exact (zI (by repeat (first | (with_reducible first | exact HB.out | apply zU | apply zV | apply zW) | exact HB.out))) : w.heap.size ≤ gb157)); clear HB; have HB := n0_; have BK157 := n1_; have GW157 := n2_; have GE157 := n3_; clear n0_ n1_ n2_ n3_; clear hb hbox hg; have hcz5_0 : w4.cell? ⟨gb157, 0, none⟩ = some (.int .i64 a0_0) := (zK BK157.out 0).trans rfl; have hcz5_1 : w4.cell? ⟨gb157, 1, none⟩ = some (.int .i64 a0_1) := (zK BK157.out 1).trans rfl; have hcz5_2 : w4.cell? ⟨gb157, 2, none⟩ = some (.string a0_2) := (zK BK157.out 2).trans rfl; have hfz5_0 := zF BK157.out 0; have hfz5_1 := zF BK157.out 1; have hfz5_2 := zF BK157.out 2) | ((with_reducible refine gate_dst (N := 8) rfl ?_); refine Kd.R_lit (Kd.int .u8) _ 5 ?hg (N := 8) ?hd (xs := ([(a0_0) % 256] : List Int)) (inner := [.int .u8 ((a0_0) % 256)]) (ok := fun _ => True) (okp := fun _ => True) ?hr ?hp (fun _ hk => hk) trivial (Below.refl _ _) (Nat.le_refl _) (by simp) ?_; (case hd => rfl); (case hg => rfl); (case hr => first | (go_simp; done) | (go_simp; rfl)); (case hp => exact (Reps.one (show Kd.M (Kd.int .u8) _ _ _ ((a0_0) % 256) [.int .u8 ((a0_0) % 256)] from rfl) (Reps.none _ _))); intro v159 w6 ho7 hb hg_ hnew_; clear hg_ hnew_; (first | rw [← Ny158.out] at ho7 | (simp only [Int.reduceToNat] at ho7; rw [← Ny158.out] at ho7)); have n0_ := zM (Kd.R_lower ho7 (zI (by repeat (first | (with_reducible first | exact HB.out | apply zU | apply zV | apply zW | refine zH ?_ GE157.out) | exact HB.out)))); have n1_ := zM (zJ (g := gb157) (o := .cells #[.int .i64 a0_0, .int .i64 a0_1, .string a0_2] 27 (0, 0)) (by (with_reducible repeat (first | refine zX ?_ _ | refine zY ?_ | refine zZ ?_ _)); exact BK157.out) hb); have n2_ := zM (zG (by repeat (first | (with_reducible first | exact HB.out | apply zU | apply zV | apply zW | refine zH ?_ GE157.out) | exact HB.out)) hb); clear BK157; clear HB; have HO160 := n0_; have BK157 := n1_; have HB := n2_; clear n0_ n1_ n2_; clear hb ho7; have hcz8_0 : w6.cell? ⟨gb157, 0, none⟩ = some (.int .i64 a0_0) := (zK BK157.out 0).trans rfl; have hcz8_1 : w6.cell? ⟨gb157, 1, none⟩ = some (.int .i64 a0_1) := (zK BK157.out 1).trans rfl; have hcz8_2 : w6.cell? ⟨gb157, 2, none⟩ = some (.string a0_2) := (zK BK157.out 2).trans rfl; have hfz8_0 := zF BK157.out 0; have hfz8_1 := zF BK157.out 1; have hfz8_2 := zF BK157.out 2) | ((with_reducible refine gate_dst (N := 22) rfl ?_); refine Kd.R_lit (Kd.int .u8) _ 5 ?hg (N := 22) ?hd (xs := ([((wrap64 (a0_1 + 10000)) / 256) % 256, (wrap64 (a0_1 + 10000)) % 256] : List Int)) (inner := [.int .u8 (((wrap64 (a0_1 + 10000)) / 256) % 256), .int .u8 ((wrap64 (a0_1 + 10000)) % 256)]) (ok := fun _ => True) (okp := fun _ => True) ?hr ?hp (fun _ hk => hk) trivial (Below.refl _ _) (Nat.le_refl _) (by simp) ?_; (case hd => rfl); (case hg => rfl); (case hr => first | (go_simp; done) | (go_simp; rfl)); (case hp => exact (Reps.one (show Kd.M (Kd.int .u8) _ _ _ (((wrap64 (a0_1 + 10000)) / 256) % 256) [.int .u8 (((wrap64 (a0_1 + 10000)) / 256) % 256)] from rfl) (Reps.one (show Kd.M (Kd.int .u8) _ _ _ ((wrap64 (a0_1 + 10000)) % 256) [.int .u8 ((wrap64 (a0_1 + 10000)) % 256)] from rfl) (Reps.none _ _)))); intro v162 w9 ho10 hb hg_ hnew_; clear hg_ hnew_; (first | rw [← Ny161.out] at ho10 | (simp only [Int.reduceToNat] at ho10; rw [← Ny161.out] at ho10)); have n0_ := zM (Kd.R_elder' (by (with_reducible repeat (first | apply zR | apply zS | apply zT)); exact HO160.out) (Kd.R_base ho10) hb); have n1_ := zM (Kd.R_lower (Kd.R_new' ho10 (Kd.R_lt (by (with_reducible repeat (first | apply zR | apply zS | apply zT)); exact HO160.out))) (zI (by repeat (first | (with_reducible first | exact HB.out | apply zU | apply zV | apply zW | refine zH ?_ GE157.out) | exact HB.out)))); have n2_ := zM (zJ (g := gb157) (o := .cells #[.int .i64 a0_0, .int .i64 a0_1, .string a0_2] 27 (0, 0)) (by (with_reducible repeat (first | refine zX ?_ _ | refine zY ?_ | refine zZ ?_ _)); exact BK157.out) hb); have n3_ := zM (zG (by repeat (first | (with_reducible first | exact HB.out | apply zU | apply zV | apply zW | refine zH ?_ GE157.out) | exact HB.out)) hb); clear HO160; clear BK157; clear HB; have HO160 := n0_; have HO163 := n1_; have BK157 := n2_; have HB := n3_; clear n0_ n1_ n2_ n3_; clear hb ho10; obtain ⟨Ao12, co12, eo12⟩ := Kd.R_slice HO163.out; subst eo12) | ((with_reducible refine gate_builtin (b := .append) (xs := #[.tmp 16, .tmp 22]) rfl ?_); at_builtin; refine Kd.R_append_rows (Kd.int .u8) (w0 := w) w.heap.size rfl (.tmp 16) (.tmp 22) 25 5 (.int .u8 0) 1 rfl Try.underlying25 info5 rfl (by decide) (by omega) v159 y158 y161 _ _ _ (fun k_ => some k_ ≠ (.slice Ao12 y161.length co12 : Value).ownBlock) (fun _ => False) rfl rfl ?aO ?aR (fun _ _ h => h) (fun _ h => h.elim) ?aF ?aB ?aS ?aL ?_; (case aR => repeat (first | exact (Kd.R_reads' HO163.out).2.2 | (with_reducible refine zQ ?_ _) | (with_reducible refine zO ?_ _) | (with_reducible refine zP ?_))); (case aB => exact (by repeat (first | (with_reducible first | exact HB.out | apply zU | apply zV | apply zW | refine zH ?_ GE157.out) | exact HB.out))); (case aF => exact (fun k_ hk => Kd.fresh' (Kd.R_lt (by (with_reducible repeat (first | apply zR | apply zS | apply zT)); exact HO163.out)) k_ hk)); (case aO => exact (by (with_reducible repeat (first | apply zR | apply zS | apply zT)); exact Kd.R_mono HO160.out (fun _ hk => hk.2))); (case aS => exact (zI (by repeat (first | (with_reducible first | exact HB.out | apply zU | apply zV | apply zW | refine zH ?_ GE157.out) | exact HB.out)))); (case aL => have := LMc3.out; omega); intro v165 w11 ho hb hg hat; rw [← Ny164.out] at ho; have n0_ := zM (blk_grown (g := gb157) (o := .cells #[.int .i64 a0_0, .int .i64 a0_1, .string a0_2] 27 (0, 0)) (by (with_reducible repeat (first | refine zX ?_ _ | refine zY ?_ | refine zZ ?_ _)); exact BK157.out) hg (Kd.R_ne HO160.out BK157.out (by decide))); have n1_ := zM (Kd.R_after (ok := (fun _ => True)) (by (with_reducible repeat (first | apply zR | apply zS | apply zT)); exact HO163.out) hg hat); have n2_ := zM (hb); have n3_ := zM (ho); clear BK157; clear HO163; clear HB; clear HO160; have BK157 := n0_; have HO163 := n1_; have HB := n2_; have HO166 := n3_; clear n0_ n1_ n2_ n3_; clear ho hb hg hat))
   go_ret
   exact ⟨_, by first | rfl | (simp [errW_none, errW_some] <;> rfl) | (simp [*, errW_none, errW_some] <;> rfl), by (with_reducible repeat (first | apply zR | apply zS | apply zT)); exact Kd.R_mono HO166.out (fun _ hk => trivial), by repeat (first | (with_reducible first | exact HB.out | apply zU | apply zV | apply zW | refine zH ?_ GE157.out) | exact HB.out)⟩
  ·
   rw [if_neg c3] at H
   exact absurd H (by simp)
 ·
  rw [if_neg c2] at H
  have c2b0 : (a0_0 == 1) = false := beq_eq_false_iff_ne.mpr c2
  have c2b1 : (a0_0 != 1) = true := bne_iff_ne.mpr c2
  by_cases c13 : a0_0 = 2
  ·
   rw [if_pos c13] at H
   have c13b0 : (a0_0 == 2) = true := beq_iff_eq.mpr c13
   have c13b1 : (a0_0 != 2) = false := bne_eq_false_iff_eq.mpr c13
   clear c13
   by_cases c14 : y158.length < 140737488355328
   ·
    rw [if_pos c14] at H
    have LMc14 := zM c14
    clear c14
    obtain ⟨y167, hy167⟩ : ∃ y_ : List Int, y_ = (y158 ++ [((a0_2.size : Int)) % 256]) := ⟨_, rfl⟩
    replace H : (if y167.length + a0_2.size < 140737488355328 then (some (y167 ++ bytesOf a0_2)) else (none)) = some r := by first | (rw [hy167]; with_reducible exact H) | (have H2_ := (Option.bind_some _ _).symm.trans H; rw [hy167]; with_reducible exact H2_) | (have H2_ := (Option.bind_some _ _).symm.trans H; with_reducible exact H2_) | with_reducible exact H | (rw [hy167]; exact H) | exact H
    have Ny167 := zM hy167
    clear hy167
    by_cases c15 : y167.length + a0_2.size < 140737488355328
    ·
     rw [if_pos c15] at H
     have LMc15 := zM c15
     clear c15
     obtain ⟨y170, hy170⟩ : ∃ y_ : List Int, y_ = (y167 ++ bytesOf a0_2) := ⟨_, rfl⟩
     replace H : (some y170) = some r := by first | (rw [hy170]; with_reducible exact H) | (have H2_ := (Option.bind_some _ _).symm.trans H; rw [hy170]; with_reducible exact H2_) | (have H2_ := (Option.bind_some _ _).symm.trans H; with_reducible exact H2_) | with_reducible exact H | (rw [hy170]; exact H) | exact H
     have Ny170 := zM hy170
     clear hy170
     obtain rfl := Option.some.inj H
     go_enter Try.func48, Try.ntmps48
     try go_wp2_with (first | ((with_reducible refine gate_dst (N := 1) rfl ?_); refine box_event ?hg (N := 1) ?hd (cs := #[.int .i64 a0_0, .int .i64 a0_1, .string a0_2]) (t := 27) ?hr ?_; (case hd => rfl); (case hg => rfl); (case hr => first | (go_simp; done) | (go_simp; rfl)); intro gb157 hg w16 hbox hb; have n0_ := zM (zG (by repeat (first | (with_reducible first | exact HB.out | apply zU | apply zV | apply zW) | exact HB.out)) hb); have n1_ := zM (hbox); have n2_ := zM ((by rw [hg]; exact (zI (by repeat (first | (with_reducible first | exact HB.out | apply zU | apply zV | apply zW) | exact HB.out))) : w.heap.size ≤ gb157)); have n3_ := zM ((by rw [hg]; exact (zI (by repeat (first | (with_reducible first | exact HB.out | apply zU | apply zV | apply zW) | exact HB.out))) : w.heap.size ≤ gb157)); clear HB; have HB := n0_; have BK157 := n1_; have GW157 := n2_; have GE157 := n3_; clear n0_ n1_ n2_ n3_; clear hb hbox hg; have hcz17_0 : w16.cell? ⟨gb157, 0, none⟩ = some (.int .i64 a0_0) := (zK BK157.out 0).trans rfl; have hcz17_1 : w16.cell? ⟨gb157, 1, none⟩ = some (.int .i64 a0_1) := (zK BK157.out 1).trans rfl; have hcz17_2 : w16.cell? ⟨gb157, 2, none⟩ = some (.string a0_2) := (zK BK157.out 2).trans rfl; have hfz17_0 := zF BK157.out 0; have hfz17_1 := zF BK157.out 1; have hfz17_2 := zF BK157.out 2) | ((with_reducible refine gate_dst (N := 8) rfl ?_); refine Kd.R_lit (Kd.int .u8) _ 5 ?hg (N := 8) ?hd (xs := ([(a0_0) % 256] : List Int)) (inner := [.int .u8 ((a0_0) % 256)]) (ok := fun _ => True) (okp := fun _ => True) ?hr ?hp (fun _ hk => hk) trivial (Below.refl _ _) (Nat.le_refl _) (by simp) ?_; (case hd => rfl); (case hg => rfl); (case hr => first | (go_simp; done) | (go_simp; rfl)); (case hp => exact (Reps.one (show Kd.M (Kd.int .u8) _ _ _ ((a0_0) % 256) [.int .u8 ((a0_0) % 256)] from rfl) (Reps.none _ _))); intro v159 w18 ho19 hb hg_ hnew_; clear hg_ hnew_; (first | rw [← Ny158.out] at ho19 | (simp only [Int.reduceToNat] at ho19; rw [← Ny158.out] at ho19)); have n0_ := zM (Kd.R_lower ho19 (zI (by repeat (first | (with_reducible first | exact HB.out | apply zU | apply zV | apply zW | refine zH ?_ GE157.out) | exact HB.out)))); have n1_ := zM (zJ (g := gb157) (o := .cells #[.int .i64 a0_0, .int .i64 a0_1, .string a0_2] 27 (0, 0)) (by (with_reducible repeat (first | refine zX ?_ _ | refine zY ?_ | refine zZ ?_ _)); exact BK157.out) hb); have n2_ := zM (zG (by repeat (first | (with_reducible first | exact HB.out | apply zU | apply zV | apply zW | refine zH ?_ GE157.out) | exact HB.out)) hb); clear BK157; clear HB; have HO160 := n0_; have BK157 := n1_; have HB := n2_; clear n0_ n1_ n2_; clear hb ho19; have hcz20_0 : w18.cell? ⟨gb157, 0, none⟩ = some (.int .i64 a0_0) := (zK BK157.out 0).trans rfl; have hcz20_1 : w18.cell? ⟨gb157, 1, none⟩ = some (.int .i64 a0_1) := (zK BK157.out 1).trans rfl; have hcz20_2 : w18.cell? ⟨gb157, 2, none⟩ = some (.string a0_2) := (zK BK157.out 2).trans rfl; have hfz20_0 := zF BK157.out 0; have hfz20_1 := zF BK157.out 1; have hfz20_2 := zF BK157.out 2))
     have n0_ := zM (zT HO160.out)
     have n1_ := zM (zY BK157.out)
     have n2_ := zM (zW HB.out)
     clear HO160
     clear BK157
     clear HB
     have HO160 := n0_
     have BK157 := n1_
     have HB := n2_
     clear n0_ n1_ n2_
     refine start_ (n := 11) (S := fun w' => w'.cell? ⟨gb157, 0, none⟩ = some (.int .i64 a0_0) ∧ w'.cell? ⟨gb157, 1, none⟩ = some (.int .i64 a0_1) ∧ w'.cell? ⟨gb157, 2, none⟩ = some (.string a0_2)) (ds := []) #[false, false, false, false, false, false, false, false, false, false, false] (by kernel_rfl) rfl rfl ⟨(zK BK157.out 0).trans rfl, (zK BK157.out 1).trans rfl, (zK BK157.out 2).trans rfl⟩ (fun hHeld => ?_); refine with_tabW impl_Value_bytes.tab7 impl_Value_bytes.bits7 (fun HT_ HW_ => ?_)
     generalize w18.drew = w21 at HO160 BK157 HB hHeld ⊢
     refine pure_ (i := 0) (N := some 26) (v := ?_) (a' := ?_) #[true, false, false, false, false, false, false, false, false, false, false] rfl rfl (any_of HT_.out (by kernel_rfl)) (fun _ _ _ h => h) (Or.inl ⟨by rfl, ?_⟩) ?_ ?_
     rotate_left
     ·
      intro w'
      go_simp
      with_reducible rfl
     rotate_left
     ·
      simp only [Act.put, zA, zB, zC, i64_w, i32_w]
      rfl
     refine pure_ (i := 1) (N := some 27) (v := ?_) (a' := ?_) #[true, true, false, false, false, false, false, false, false, false, false] rfl rfl (any_of HT_.out (by kernel_rfl)) (fun _ _ _ h => h) (Or.inl ⟨by rfl, ?_⟩) ?_ ?_
     rotate_left
     ·
      intro w'
      go_simp
      with_reducible rfl
     rotate_left
     ·
      simp only [Act.put, zA, zB, zC, i64_w, i32_w]
      rfl
     refine pure_ (i := 7) (N := some 33) (v := ?_) (a' := ?_) #[true, true, false, false, false, false, false, true, false, false, false] rfl rfl (any_of HT_.out (by kernel_rfl)) (fun _ _ _ h => h) (Or.inl ⟨by rfl, ?_⟩) ?_ ?_
     rotate_left
     ·
      intro w'
      go_simp
      with_reducible rfl
     rotate_left
     ·
      simp only [Act.put, zA, zB, zC, i64_w, i32_w]
      rfl
     refine take_ (i := 2) (N := some 28) (v := ?_) (a' := ?_) #[true, true, true, false, false, false, false, true, false, false, false] rfl rfl (take_ofW HT_.out HW_.out (by kernel_rfl)) (fun _ _ _ h => h) (Or.inl ⟨by rfl, ?_⟩) hHeld ?_ ?_
     rotate_left
     ·
      rintro w' ⟨s0, s1, s2⟩
      go_simp
      with_reducible rfl
     rotate_left
     ·
      simp only [Act.put, zA, zB, zC, i64_w, i32_w]
      rfl
     refine pure_ (i := 3) (N := some 29) (v := ?_) (a' := ?_) #[true, true, true, true, false, false, false, true, false, false, false] rfl rfl (any_of HT_.out (by kernel_rfl)) (fun _ _ _ h => h) (Or.inl ⟨by rfl, ?_⟩) ?_ ?_
     rotate_left
     ·
      intro w'
      go_simp
      with_reducible rfl
     rotate_left
     ·
      simp only [Act.put, zA, zB, zC, i64_w, i32_w]
      rfl
     refine pure_ (i := 4) (N := some 30) (v := ?_) (a' := ?_) #[true, true, true, true, true, false, false, true, false, false, false] rfl rfl (any_of HT_.out (by kernel_rfl)) (fun _ _ _ h => h) (Or.inl ⟨by rfl, ?_⟩) ?_ ?_
     rotate_left
     ·
      intro w'
      go_simp
      with_reducible rfl
     rotate_left
     ·
      simp only [Act.put, zA, zB, zC, i64_w, i32_w]
      rfl
     refine take_ (i := 8) (N := some 34) (v := ?_) (a' := ?_) #[true, true, true, true, true, false, false, true, true, false, false] rfl rfl (take_ofW HT_.out HW_.out (by kernel_rfl)) (fun _ _ _ h => h) (Or.inl ⟨by rfl, ?_⟩) hHeld ?_ ?_
     rotate_left
     ·
      rintro w' ⟨s0, s1, s2⟩
      go_simp
      with_reducible rfl
     rotate_left
     ·
      simp only [Act.put, zA, zB, zC, i64_w, i32_w]
      rfl
     refine one_ (i := 5) (N := some 31) #[true, true, true, true, true, true, false, true, true, false, false] rfl rfl (one_of HT_.out (by kernel_rfl)) (by decide) (fun K hK => ?_)
     refine value_ (w1 := ?_) (v := ?_) (by rfl) rfl ?_ ?_
     rotate_left 2
     ·
      go_simp
      constructor
      ·
       rfl
      ·
       rfl
     refine hK.out _ _ ⟨(zK (zZ BK157.out _) 0).trans rfl, (zK (zZ BK157.out _) 1).trans rfl, (zK (zZ BK157.out _) 2).trans rfl⟩ (fun hHeld => ?_)
     clear hK K
     refine norm_ (a' := ?_) ?_ ?_
     rotate_left
     ·
      show Act.put _ (some 31) _ = _
      simp only [Act.put, zA, zB, zC, i64_w, i32_w]
      rfl
     refine one_ (i := 6) (N := some 32) #[true, true, true, true, true, true, true, true, true, false, false] rfl rfl (one_of HT_.out (by kernel_rfl)) (by decide) (fun K hK => ?_)
     refine Kd.R_append_step (Kd.int .u8) (w0 := w) w.heap.size (by rfl) (.tmp 26) (.tmp 31) 25 5 (.int .u8 0) 1 rfl Try.underlying25 info5 rfl (by decide) (by omega) v159 y158 (((a0_2.size : Int)) % 256) [.int .u8 (((a0_2.size : Int)) % 256)] (fun _ => True) (fun _ => False) rfl rfl ?aP (fun _ hk => hk.elim) ?aF ?aO ?aB ?aS ?aL ?_
     (case aP => exact rfl)
     (case aB => exact (by repeat (first | (with_reducible first | exact HB.out | apply zU | apply zV | apply zW | refine zH ?_ GE157.out) | exact HB.out)))
     (case aF => exact (fun _ _ => trivial))
     (case aO => exact (by (with_reducible repeat (first | apply zR | apply zS | apply zT)); exact HO160.out))
     (case aS => exact (zI (by repeat (first | (with_reducible first | exact HB.out | apply zU | apply zV | apply zW | refine zH ?_ GE157.out) | exact HB.out))))
     (case aL => have := LMc14.out; omega)
     intro v168 w22 ho hb hg hat
     rw [← Ny167.out] at ho
     have n0_ := zM (blk_grown (g := gb157) (o := .cells #[.int .i64 a0_0, .int .i64 a0_1, .string a0_2] 27 (0, 0)) (by (with_reducible repeat (first | refine zX ?_ _ | refine zY ?_ | refine zZ ?_ _)); exact BK157.out) hg (Kd.R_ne HO160.out BK157.out (by decide)))
     have n1_ := zM (hb)
     have n2_ := zM (ho)
     clear BK157
     clear HB
     clear HO160
     have BK157 := n0_
     have HB := n1_
     have HO169 := n2_
     clear n0_ n1_ n2_
     clear ho hb hg hat
     refine hK.out _ _ ⟨(zK BK157.out 0).trans rfl, (zK BK157.out 1).trans rfl, (zK BK157.out 2).trans rfl⟩ (fun hHeld => ?_)
     clear hK K
     refine norm_ (a' := ?_) ?_ ?_
     rotate_left
     ·
      show Act.put _ (some 32) _ = _
      simp only [Act.put, zA, zB, zC, i64_w, i32_w]
      rfl
     refine one_ (i := 9) (N := some 35) #[true, true, true, true, true, true, true, true, true, true, false] rfl rfl (one_of HT_.out (by kernel_rfl)) (by decide) (fun K hK => ?_)
     refine print_append_str_step (w0 := w) w.heap.size (by rfl) (.tmp 32) _ 25 9 5 rfl Try.underlying25 Try.underlying9 info5 v168 y167 a0_2 rfl rfl ?aO ?aB ?aS ?aL ?_
     (case aB => exact (by repeat (first | (with_reducible first | exact HB.out | apply zU | apply zV | apply zW | refine zH ?_ GE157.out) | exact HB.out)))
     (case aO => exact (Kd.own_of_R (by (with_reducible repeat (first | apply zR | apply zS | apply zT)); exact HO169.out)))
     (case aS => exact (zI (by repeat (first | (with_reducible first | exact HB.out | apply zU | apply zV | apply zW | refine zH ?_ GE157.out) | exact HB.out))))
     (case aL => have := LMc15.out; omega)
     intro v171 w23 ho0 hb hg
     have ho := Kd.R_of_own (h1 := fun _ => rfl) (ok := fun _ => True) ho0 (fun _ _ => trivial)
     clear ho0
     have hat := True.intro
     rw [← Ny170.out] at ho
     change Kd.R (Kd.int .u8) 5 w23 w.heap.size (fun _ => True) v171 y170 at ho
     have n0_ := zM (blk_grown (g := gb157) (o := .cells #[.int .i64 a0_0, .int .i64 a0_1, .string a0_2] 27 (0, 0)) (by (with_reducible repeat (first | refine zX ?_ _ | refine zY ?_ | refine zZ ?_ _)); exact BK157.out) hg (Kd.R_ne HO169.out BK157.out (by decide)))
     have n1_ := zM (hb)
     have n2_ := zM (ho)
     clear BK157
     clear HB
     clear HO169
     have BK157 := n0_
     have HB := n1_
     have HO172 := n2_
     clear n0_ n1_ n2_
     clear ho hb hg hat
     refine hK.out _ _ ⟨(zK BK157.out 0).trans rfl, (zK BK157.out 1).trans rfl, (zK BK157.out 2).trans rfl⟩ (fun hHeld => ?_)
     clear hK K
     refine norm_ (a' := ?_) ?_ ?_
     rotate_left
     ·
      show Act.put _ (some 35) _ = _
      simp only [Act.put, zA, zB, zC, i64_w, i32_w]
      rfl
     refine pure_ (i := 10) (N := some 3) (v := ?_) (a' := ?_) #[true, true, true, true, true, true, true, true, true, true, true] rfl rfl (any_of HT_.out (by kernel_rfl)) (fun _ _ _ h => h) (Or.inl ⟨by rfl, ?_⟩) ?_ ?_
     rotate_left
     ·
      intro w'
      go_simp
      with_reducible rfl
     rotate_left
     ·
      simp only [Act.put, zA, zB, zC, i64_w, i32_w]
      rfl
     refine done_ (done_of HT_.out (by kernel_rfl)) ?_
     try go_wp2
     go_ret
     exact ⟨_, by first | rfl | (simp [errW_none, errW_some] <;> rfl) | (simp [*, errW_none, errW_some] <;> rfl), by (with_reducible repeat (first | apply zR | apply zS | apply zT)); exact HO172.out, by repeat (first | (with_reducible first | exact HB.out | apply zU | apply zV | apply zW | refine zH ?_ GE157.out) | exact HB.out)⟩
    ·
     rw [if_neg c15] at H
     exact absurd H (by simp)
   ·
    rw [if_neg c14] at H
    exact absurd H (by simp)
  ·
   rw [if_neg c13] at H
   have c13b0 : (a0_0 == 2) = false := beq_eq_false_iff_ne.mpr c13
   have c13b1 : (a0_0 != 2) = true := bne_iff_ne.mpr c13
   by_cases c24 : a0_0 = 3
   ·
    rw [if_pos c24] at H
    have c24b0 : (a0_0 == 3) = true := beq_iff_eq.mpr c24
    have c24b1 : (a0_0 != 3) = false := bne_eq_false_iff_eq.mpr c24
    clear c24
    by_cases c25 : y158.length < 140737488355328
    ·
     rw [if_pos c25] at H
     have LMc25 := zM c25
     clear c25
     obtain ⟨y173, hy173⟩ : ∃ y_ : List Int, y_ = (y158 ++ [(a0_1) % 256]) := ⟨_, rfl⟩
     replace H : (some y173) = some r := by first | (rw [hy173]; with_reducible exact H) | (have H2_ := (Option.bind_some _ _).symm.trans H; rw [hy173]; with_reducible exact H2_) | (have H2_ := (Option.bind_some _ _).symm.trans H; with_reducible exact H2_) | with_reducible exact H | (rw [hy173]; exact H) | exact H
     have Ny173 := zM hy173
     clear hy173
     obtain rfl := Option.some.inj H
     go_enter Try.func48, Try.ntmps48
     go_wp2_with (first | ((with_reducible refine gate_dst (N := 1) rfl ?_); refine box_event ?hg (N := 1) ?hd (cs := #[.int .i64 a0_0, .int .i64 a0_1, .string a0_2]) (t := 27) ?hr ?_; (case hd => rfl); (case hg => rfl); (case hr => first | (go_simp; done) | (go_simp; rfl)); intro gb157 hg w26 hbox hb; have n0_ := zM (zG (by repeat (first | (with_reducible first | exact HB.out | apply zU | apply zV | apply zW) | exact HB.out)) hb); have n1_ := zM (hbox); have n2_ := zM ((by rw [hg]; exact (zI (by repeat (first | (with_reducible first | exact HB.out | apply zU | apply zV | apply zW) | exact HB.out))) : w.heap.size ≤ gb157)); have n3_ := zM ((by rw [hg]; exact (zI (by repeat (first | (with_reducible first | exact HB.out | apply zU | apply zV | apply zW) | exact HB.out))) : w.heap.size ≤ gb157)); clear HB; have HB := n0_; have BK157 := n1_; have GW157 := n2_; have GE157 := n3_; clear n0_ n1_ n2_ n3_; clear hb hbox hg; have hcz27_0 : w26.cell? ⟨gb157, 0, none⟩ = some (.int .i64 a0_0) := (zK BK157.out 0).trans rfl; have hcz27_1 : w26.cell? ⟨gb157, 1, none⟩ = some (.int .i64 a0_1) := (zK BK157.out 1).trans rfl; have hcz27_2 : w26.cell? ⟨gb157, 2, none⟩ = some (.string a0_2) := (zK BK157.out 2).trans rfl; have hfz27_0 := zF BK157.out 0; have hfz27_1 := zF BK157.out 1; have hfz27_2 := zF BK157.out 2) | ((with_reducible refine gate_dst (N := 8) rfl ?_); refine Kd.R_lit (Kd.int .u8) _ 5 ?hg (N := 8) ?hd (xs := ([(a0_0) % 256] : List Int)) (inner := [.int .u8 ((a0_0) % 256)]) (ok := fun _ => True) (okp := fun _ => True) ?hr ?hp (fun _ hk => hk) trivial (Below.refl _ _) (Nat.le_refl _) (by simp) ?_; (case hd => rfl); (case hg => rfl); (case hr => first | (go_simp; done) | (go_simp; rfl)); (case hp => exact (Reps.one (show Kd.M (Kd.int .u8) _ _ _ ((a0_0) % 256) [.int .u8 ((a0_0) % 256)] from rfl) (Reps.none _ _))); intro v159 w28 ho29 hb hg_ hnew_; clear hg_ hnew_; (first | rw [← Ny158.out] at ho29 | (simp only [Int.reduceToNat] at ho29; rw [← Ny158.out] at ho29)); have n0_ := zM (Kd.R_lower ho29 (zI (by repeat (first | (with_reducible first | exact HB.out | apply zU | apply zV | apply zW | refine zH ?_ GE157.out) | exact HB.out)))); have n1_ := zM (zJ (g := gb157) (o := .cells #[.int .i64 a0_0, .int .i64 a0_1, .string a0_2] 27 (0, 0)) (by (with_reducible repeat (first | refine zX ?_ _ | refine zY ?_ | refine zZ ?_ _)); exact BK157.out) hb); have n2_ := zM (zG (by repeat (first | (with_reducible first | exact HB.out | apply zU | apply zV | apply zW | refine zH ?_ GE157.out) | exact HB.out)) hb); clear BK157; clear HB; have HO160 := n0_; have BK157 := n1_; have HB := n2_; clear n0_ n1_ n2_; clear hb ho29; have hcz30_0 : w28.cell? ⟨gb157, 0, none⟩ = some (.int .i64 a0_0) := (zK BK157.out 0).trans rfl; have hcz30_1 : w28.cell? ⟨gb157, 1, none⟩ = some (.int .i64 a0_1) := (zK BK157.out 1).trans rfl; have hcz30_2 : w28.cell? ⟨gb157, 2, none⟩ = some (.string a0_2) := (zK BK157.out 2).trans rfl; have hfz30_0 := zF BK157.out 0; have hfz30_1 := zF BK157.out 1; have hfz30_2 := zF BK157.out 2) | ((with_reducible refine gate_builtin (b := .append) (xs := #[.tmp 38, .tmp 42]) rfl ?_); at_builtin; refine Kd.R_append (Kd.int .u8) (w0 := w) w.heap.size rfl (.tmp 38) (.tmp 42) 25 5 (.int .u8 0) 1 rfl Try.underlying25 info5 rfl (by decide) (by omega) v159 y158 ((a0_1) % 256) [.int .u8 ((a0_1) % 256)] (fun _ => True) (fun _ => False) rfl rfl ?aP (fun _ hk => hk.elim) ?aF ?aO ?aB ?aS ?aL ?_; (case aP => exact rfl); (case aB => exact (by repeat (first | (with_reducible first | exact HB.out | apply zU | apply zV | apply zW | refine zH ?_ GE157.out) | exact HB.out))); (case aF => exact (fun _ _ => trivial)); (case aO => exact (by (with_reducible repeat (first | apply zR | apply zS | apply zT)); exact HO160.out)); (case aS => exact (zI (by repeat (first | (with_reducible first | exact HB.out | apply zU | apply zV | apply zW | refine zH ?_ GE157.out) | exact HB.out)))); (case aL => have := LMc25.out; omega); intro v174 w31 ho hb hg hat; rw [← Ny173.out] at ho; have n0_ := zM (blk_grown (g := gb157) (o := .cells #[.int .i64 a0_0, .int .i64 a0_1, .string a0_2] 27 (0, 0)) (by (with_reducible repeat (first | refine zX ?_ _ | refine zY ?_ | refine zZ ?_ _)); exact BK157.out) hg (Kd.R_ne HO160.out BK157.out (by decide))); have n1_ := zM (hb); have n2_ := zM (ho); clear BK157; clear HB; clear HO160; have BK157 := n0_; have HB := n1_; have HO175 := n2_; clear n0_ n1_ n2_; clear ho hb hg hat))
     go_ret
     exact ⟨_, by first | rfl | (simp [errW_none, errW_some] <;> rfl) | (simp [*, errW_none, errW_some] <;> rfl), by (with_reducible repeat (first | apply zR | apply zS | apply zT)); exact HO175.out, by repeat (first | (with_reducible first | exact HB.out | apply zU | apply zV | apply zW | refine zH ?_ GE157.out) | exact HB.out)⟩
    ·
     rw [if_neg c25] at H
     exact absurd H (by simp)
   ·
    rw [if_neg c24] at H
    have c24b0 : (a0_0 == 3) = false := beq_eq_false_iff_ne.mpr c24
    have c24b1 : (a0_0 != 3) = true := bne_iff_ne.mpr c24
    obtain rfl := Option.some.inj H
    go_enter Try.func48, Try.ntmps48
    go_wp2_with (first | ((with_reducible refine gate_dst (N := 1) rfl ?_); refine box_event ?hg (N := 1) ?hd (cs := #[.int .i64 a0_0, .int .i64 a0_1, .string a0_2]) (t := 27) ?hr ?_; (case hd => rfl); (case hg => rfl); (case hr => first | (go_simp; done) | (go_simp; rfl)); intro gb157 hg w32 hbox hb; have n0_ := zM (zG (by repeat (first | (with_reducible first | exact HB.out | apply zU | apply zV | apply zW) | exact HB.out)) hb); have n1_ := zM (hbox); have n2_ := zM ((by rw [hg]; exact (zI (by repeat (first | (with_reducible first | exact HB.out | apply zU | apply zV | apply zW) | exact HB.out))) : w.heap.size ≤ gb157)); have n3_ := zM ((by rw [hg]; exact (zI (by repeat (first | (with_reducible first | exact HB.out | apply zU | apply zV | apply zW) | exact HB.out))) : w.heap.size ≤ gb157)); clear HB; have HB := n0_; have BK157 := n1_; have GW157 := n2_; have GE157 := n3_; clear n0_ n1_ n2_ n3_; clear hb hbox hg; have hcz33_0 : w32.cell? ⟨gb157, 0, none⟩ = some (.int .i64 a0_0) := (zK BK157.out 0).trans rfl; have hcz33_1 : w32.cell? ⟨gb157, 1, none⟩ = some (.int .i64 a0_1) := (zK BK157.out 1).trans rfl; have hcz33_2 : w32.cell? ⟨gb157, 2, none⟩ = some (.string a0_2) := (zK BK157.out 2).trans rfl; have hfz33_0 := zF BK157.out 0; have hfz33_1 := zF BK157.out 1; have hfz33_2 := zF BK157.out 2) | ((with_reducible refine gate_dst (N := 8) rfl ?_); refine Kd.R_lit (Kd.int .u8) _ 5 ?hg (N := 8) ?hd (xs := ([(a0_0) % 256] : List Int)) (inner := [.int .u8 ((a0_0) % 256)]) (ok := fun _ => True) (okp := fun _ => True) ?hr ?hp (fun _ hk => hk) trivial (Below.refl _ _) (Nat.le_refl _) (by simp) ?_; (case hd => rfl); (case hg => rfl); (case hr => first | (go_simp; done) | (go_simp; rfl)); (case hp => exact (Reps.one (show Kd.M (Kd.int .u8) _ _ _ ((a0_0) % 256) [.int .u8 ((a0_0) % 256)] from rfl) (Reps.none _ _))); intro v159 w34 ho35 hb hg_ hnew_; clear hg_ hnew_; (first | rw [← Ny158.out] at ho35 | (simp only [Int.reduceToNat] at ho35; rw [← Ny158.out] at ho35)); have n0_ := zM (Kd.R_lower ho35 (zI (by repeat (first | (with_reducible first | exact HB.out | apply zU | apply zV | apply zW | refine zH ?_ GE157.out) | exact HB.out)))); have n1_ := zM (zJ (g := gb157) (o := .cells #[.int .i64 a0_0, .int .i64 a0_1, .string a0_2] 27 (0, 0)) (by (with_reducible repeat (first | refine zX ?_ _ | refine zY ?_ | refine zZ ?_ _)); exact BK157.out) hb); have n2_ := zM (zG (by repeat (first | (with_reducible first | exact HB.out | apply zU | apply zV | apply zW | refine zH ?_ GE157.out) | exact HB.out)) hb); clear BK157; clear HB; have HO160 := n0_; have BK157 := n1_; have HB := n2_; clear n0_ n1_ n2_; clear hb ho35; have hcz36_0 : w34.cell? ⟨gb157, 0, none⟩ = some (.int .i64 a0_0) := (zK BK157.out 0).trans rfl; have hcz36_1 : w34.cell? ⟨gb157, 1, none⟩ = some (.int .i64 a0_1) := (zK BK157.out 1).trans rfl; have hcz36_2 : w34.cell? ⟨gb157, 2, none⟩ = some (.string a0_2) := (zK BK157.out 2).trans rfl; have hfz36_0 := zF BK157.out 0; have hfz36_1 := zF BK157.out 1; have hfz36_2 := zF BK157.out 2))
    go_ret
    exact ⟨_, by first | rfl | (simp [errW_none, errW_some] <;> rfl) | (simp [*, errW_none, errW_some] <;> rfl), by (with_reducible repeat (first | apply zR | apply zS | apply zT)); exact HO160.out, by repeat (first | (with_reducible first | exact HB.out | apply zU | apply zV | apply zW | refine zH ?_ GE157.out) | exact HB.out)⟩
end

section
/-! ### impl_ValueBytes: function 18 -/
theorem impl_ValueBytes.clip (A0 : Option Addr) (n c : Nat) (w : World) (hn : n ≤ c) :
  Calls Try.prog 47 #[.slice A0 n c] w fun e w' => e = .returned (.slice A0 n n) ∧ w' = w := by
 have hu25 := Try.underlying25
 have h0 : decide ((0 : Int) ≤ (n : Int)) = true := decide_eq_true (by omega)
 have h1 : decide ((n : Int) ≤ (c : Int)) = true := decide_eq_true (by omega)
 have h2 : decide ((n : Int) ≤ (n : Int)) = true := decide_eq_true (by omega)
 go_enter Try.func47, Try.ntmps47
 go_wp2
 go_ret
 exact ⟨rfl, rfl⟩
def impl_ValueBytes.f (a0_0 : Int) (a0_1 : Int) (a0_2 : ByteArray) : Option (List Int) := (impl_Value_ok.f a0_0 a0_1 a0_2).bind fun t => (if t = true then impl_Value_bytes.f a0_0 a0_1 a0_2 else some [])
set_option maxHeartbeats 8000000 in
set_option maxRecDepth 100000 in
theorem impl_ValueBytes.calls (a0_0 : Int) (a0_1 : Int) (a0_2 : ByteArray) (r : List Int) (w : World) (h : impl_ValueBytes.f a0_0 a0_1 a0_2 = some r) :
  Calls Try.prog 18 #[.agg #[.int .i64 a0_0, .int .i64 a0_1, .string a0_2]] w fun e w' => ∃ v0_ : Value, e = .returned (v0_) ∧ Kd.R (Kd.int .u8) 5 w' w.heap.size (fun _ => True) v0_ r ∧ Below w.heap.size w w' := by
 have hu27 := Try.underlying27
 unfold impl_ValueBytes.f at h
 obtain ⟨t, ht, h⟩ := Option.bind_eq_some_iff.mp h
 have HT := zM ht
 clear ht
 cases t with
 | false =>
  rw [if_neg (by decide)] at h
  obtain rfl := Option.some.inj h
  clear h
  go_enter Try.func18, Try.ntmps18
  go_wp2_with (first | ((with_reducible refine gate_dst (N := 1) rfl ?_); refine box_event ?hg (N := 1) ?hd (cs := #[.int .i64 a0_0, .int .i64 a0_1, .string a0_2]) (t := 27) ?hr ?_; (case hd => rfl); (case hg => rfl); (case hr => first | (go_simp; done) | (go_simp; rfl)); intro gb hg w1 hbox hb1; have hcgb_0 : w1.cell? ⟨gb, 0, none⟩ = some (.int .i64 a0_0) := (zK hbox 0).trans rfl; have hcgb_1 : w1.cell? ⟨gb, 1, none⟩ = some (.int .i64 a0_1) := (zK hbox 1).trans rfl; have hcgb_2 : w1.cell? ⟨gb, 2, none⟩ = some (.string a0_2) := (zK hbox 2).trans rfl; have HBw1 := zM hb1; clear hbox hb1 hg) | (go_at_call 46; (with_reducible refine (impl_Value_ok.calls a0_0 a0_1 a0_2 false _ HT.out).mono ?_); rintro e w2 ⟨rfl, hb2⟩; have HBw2 := zM hb2; clear hb2))
  go_ret
  exact ⟨_, rfl, Kd.R_nil _ _ _ _ _, zG HBw1.out HBw2.out⟩
 | true =>
  rw [if_pos rfl] at h
  have HY := zM h
  clear h
  go_enter Try.func18, Try.ntmps18
  go_wp2_with (first | ((with_reducible refine gate_dst (N := 1) rfl ?_); refine box_event ?hg (N := 1) ?hd (cs := #[.int .i64 a0_0, .int .i64 a0_1, .string a0_2]) (t := 27) ?hr ?_; (case hd => rfl); (case hg => rfl); (case hr => first | (go_simp; done) | (go_simp; rfl)); intro gb hg w1 hbox hb1; have hcgb_0 : w1.cell? ⟨gb, 0, none⟩ = some (.int .i64 a0_0) := (zK hbox 0).trans rfl; have hcgb_1 : w1.cell? ⟨gb, 1, none⟩ = some (.int .i64 a0_1) := (zK hbox 1).trans rfl; have hcgb_2 : w1.cell? ⟨gb, 2, none⟩ = some (.string a0_2) := (zK hbox 2).trans rfl; have HBw1 := zM hb1; clear hbox hb1 hg) | (go_at_call 46; (with_reducible refine (impl_Value_ok.calls a0_0 a0_1 a0_2 true _ HT.out).mono ?_); rintro e w2 ⟨rfl, hb2⟩; have HBw2 := zM hb2; replace hcgb_0 := pw_cell_below hb2 hcgb_0; replace hcgb_1 := pw_cell_below hb2 hcgb_1; replace hcgb_2 := pw_cell_below hb2 hcgb_2; clear hb2) | (go_at_call 48; (with_reducible refine (impl_Value_bytes.calls a0_0 a0_1 a0_2 _ _ HY.out).mono ?_); rintro e w3 ⟨v3, rfl, ho3, hb3⟩; have HO3 := zM ho3; have HBw3 := zM hb3; clear ho3 hb3; obtain ⟨A3, c3, e3⟩ := Kd.R_slice HO3.out; subst e3) | (go_at_call 47; (with_reducible refine (impl_ValueBytes.clip _ _ _ _ ?sideq).mono ?_); (case sideq => exact (Kd.R_reads' HO3.out).2.1); rintro e w4 ⟨rfl, rfl⟩))
  go_ret
  have hb := zG HBw1.out HBw2.out
  exact ⟨_, rfl, Kd.R_lower (Kd.R_clip HO3.out) (zI hb), zG hb HBw3.out⟩
end

end Go.Proofs.Ytdgikheibcmcjaa.X
