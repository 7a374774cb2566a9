/- Plain functions for the Go functions of this seat, and proofs that each call answers as its plain function does; made by this session's program over the kit's printer. -/
import Derived.Test.YtalhkihppcjanaaUX0
import Derived.Test.YtalhkihppcjanaaZFnRowMany1
namespace Go.Proofs.Ytalhkihppcjanaa.X
open Go.RowKit Go.Proofs.YtalhkihppcjanaaV.PrintWords Go.Proofs.YtalhkihppcjanaaV.PrintLast Go.Proofs.YtalhkihppcjanaaV.PrintMore
attribute [local go_sem] max2_int min2_int max_two min_two max_three min_three max_four min_four   -- for this text's walks alone
set_option linter.unusedVariables false
set_option linter.unusedSimpArgs false

open Go.Proofs.YtalhkihppcjanaaV.PrintWords renaming below_alloc → zU, pw_below_drewN → zV, below_drew1 → zW, blk_drewN → zX, blk_drew → zY, blk_alloc → zZ, blk_frozen → zF, blk_cell → zK, below_step → zG, below_set → zH, below_size → zI, blk_below → zJ
open Go.Proofs.YtalhkihppcjanaaV.PrintWords.Kd renaming R_alloc → zR, R_drewN → zS, R_drew → zT, C_alloc → zQ, C_drewN → zO, C_drew → zP
section
/-! ### spec_l20Columns: function 47 -/
def spec_l20Columns.l0 : Nat → Int → List (S113) → Int → List Int → Int → Option ((List (S113)) × Int)
 | 0, _, _, _, _, _ => none
 | k + 1, x1, x5, x6, x1000, x1001 => if x6 > 0 then ((some (([1, 1, 2, 3] : List Int) : List Int)).bind fun y310 => ((spec_l20Rd_pick.f k x1000 x1001 4).bind fun bt313 => (if 0 ≤ bt313.1 then (if bt313.1 < (y310.length : Int) then ((spec_l20Rd_pick.f k x1000 bt313.2 3).bind fun bt316 => (if x5.length < 8796093022208 then (spec_l20Columns.l0 k x1 (x5 ++ [(⟨rd y310 bt313.1, decide (bt316.1 > 0)⟩ : S113)]) (wrap64 (x6 - 1)) x1000 bt316.2) else (none))) else (none)) else (none)))) else ((spec_l20Rd_odd.f k x1000 x1001 x1).bind fun bt321 => (if bt321.1 = true then ((spec_l20Rd_pick.f k x1000 bt321.2 6).bind fun bt323 => ((some (([(⟨wrap64 (bt323.1 - 1), false⟩ : S113), (⟨1, false⟩ : S113), (⟨1, false⟩ : S113)] : List (S113)) : List (S113))).bind fun y325 => (if x5.length + y325.length < 8796093022208 then (some ((x5 ++ y325), bt323.2)) else (none)))) else (some (x5, bt321.2))))
def spec_l20Columns.f (k : Nat) (s0_0 : List Int) (s0_1 : Int) (a1 : Int) : Option ((List (S113)) × Int) := (spec_l20Rd_pick.f k s0_0 s0_1 3).bind fun bt308 => (spec_l20Columns.l0 k a1 (([] : List (S113))) (wrap64 (1 + bt308.1)) s0_0 bt308.2)
theorem spec_l20Columns.mono_l : ∀ k, (∀ y0 y1 y2 y3 y4, LeO (spec_l20Columns.l0 k y0 y1 y2 y3 y4) (spec_l20Columns.l0 (k + 1) y0 y1 y2 y3 y4))
 | 0 => fun _ _ _ _ _ r h => by simp [spec_l20Columns.l0] at h
 | k + 1 => by
  have ih0 := spec_l20Columns.mono_l k
  ·
   intro y0 y1 y2 y3 y4
   unfold spec_l20Columns.l0
   repeat' first
   | (with_reducible exact ih0 _ _ _ _ _)
   | (with_reducible exact spec_l20Rd_odd.mono _ _ _ _)
   | (with_reducible exact spec_l20Rd_pick.mono _ _ _ _)
   | (with_reducible exact LeO.refl _)
   | (with_reducible exact LeO.none _)
   | (with_reducible refine LeO.ite ?_ ?_)
   | (with_reducible refine LeO.bind ?_ (fun _ => ?_))
   | exact ih0 _ _ _ _ _
   | exact spec_l20Rd_odd.mono _ _ _ _
   | exact spec_l20Rd_pick.mono _ _ _ _
   | exact LeO.none _
   | refine LeO.ite ?_ ?_
   | refine LeO.bind ?_ (fun _ => ?_)
theorem spec_l20Columns.mono : ∀ a0 a1 a2 k, LeO (spec_l20Columns.f k a0 a1 a2) (spec_l20Columns.f (k + 1) a0 a1 a2) := by
 intro a0 a1 a2 k
 have ih0 := spec_l20Columns.mono_l k
 unfold spec_l20Columns.f
 repeat' first
   | (with_reducible exact ih0 _ _ _ _ _)
   | (with_reducible exact spec_l20Rd_odd.mono _ _ _ _)
   | (with_reducible exact spec_l20Rd_pick.mono _ _ _ _)
   | (with_reducible exact LeO.refl _)
   | (with_reducible exact LeO.none _)
   | (with_reducible refine LeO.ite ?_ ?_)
   | (with_reducible refine LeO.bind ?_ (fun _ => ?_))
   | exact ih0 _ _ _ _ _
   | exact spec_l20Rd_odd.mono _ _ _ _
   | exact spec_l20Rd_pick.mono _ _ _ _
   | exact LeO.none _
   | refine LeO.ite ?_ ?_
   | refine LeO.bind ?_ (fun _ => ?_)
def spec_l20Columns.T5 : Bool × List (List Nat × List Nat) := (true, [([], []), ([], []), ([], []), ([2], [2]), ([1, 3], [1, 3]), ([4], [4]), ([], []), ([6, 3], [6]), ([7], [7]), ([5, 8], [5, 8]), ([9], [9]), ([0, 10, 7], [0, 10]), ([11, 11, 0, 1, 2, 3, 4, 5, 6, 7, 8, 9, 10, 11], [0, 11])])
def spec_l20Columns.B5 : List Nat := [0, 0, 0, 4, 14, 30, 0, 76, 204, 510, 1022, 2047, 4095]
theorem spec_l20Columns.tab5 : rtab .any (opsOf Try.f47 5) = spec_l20Columns.T5 := by kernel_rfl
theorem spec_l20Columns.bits5 : waitsOk spec_l20Columns.T5.2 spec_l20Columns.B5 = true := by kernel_rfl
set_option maxHeartbeats 8000000 in
set_option maxRecDepth 100000 in
theorem spec_l20Columns.calls (k : Nat) (g : Nat) (s0_0 : List Int) (s0_1 : Int) (a1 : Int) (r1 : List (S113)) (r2 : Int) (w0 w : World) (hI : IsS111 w0 w g s0_0 s0_1) (hB : Below w0.heap.size w0 w) (h : spec_l20Columns.f k s0_0 s0_1 a1 = some (r1, r2)) :
  Calls Try.prog 47 #[.pointer (some ⟨g, 0, none⟩), .int .i64 a1] w fun e w' => ∃ v0_ : Value, e = .returned (v0_) ∧ Kd.R k113 113 w' w.heap.size (fun _ => True) v0_ r1 ∧ IsS111 w0 w' g s0_0 r2 ∧ Below w0.heap.size w0 w' ∧ KeepBut w w' g none := by
 have hu113 := Try.underlying113
 have HI0 := zM hI
 have HK := zM (KeepBut.refl w g none)
 have HL := zM hB.size
 clear hI
 have HW0 := zM hB.size
 have HB := zM hB
 clear hB
 have H : ((spec_l20Rd_pick.f k s0_0 s0_1 3).bind fun bt308 => (spec_l20Columns.l0 k a1 (([] : List (S113))) (wrap64 (1 + bt308.1)) s0_0 bt308.2)) = some (r1, r2) := h
 clear h
 obtain ⟨y305, hy305⟩ : ∃ y_ : List (S113), y_ = (([] : List (S113))) := ⟨_, rfl⟩
 replace H : ((spec_l20Rd_pick.f k s0_0 s0_1 3).bind fun bt308 => (spec_l20Columns.l0 k a1 y305 (wrap64 (1 + bt308.1)) s0_0 bt308.2)) = some (r1, r2) := by first | (rw [hy305]; with_reducible exact H) | (have H2_ := (Option.bind_some _ _).symm.trans H; rw [hy305]; with_reducible exact H2_) | (have H2_ := (Option.bind_some _ _).symm.trans H; with_reducible exact H2_) | with_reducible exact H | (rw [hy305]; exact H) | exact H
 have Ny305 := zM hy305
 clear hy305
 replace H := Option.bind_eq_some_iff.mp H
 obtain ⟨⟨t308, t309⟩, A30, H⟩ := H
 replace H : (spec_l20Columns.l0 k a1 y305 (wrap64 (1 + t308)) s0_0 t309) = some (r1, r2) := H
 have A3 := zM A30
 clear A30
 have H' := zM H
 clear H
 go_enter Try.func47, Try.ntmps47
 go_wp2_with (first | ((with_reducible refine gate_dst (N := 7) rfl ?_); refine Kd.R_lit k113 _ 113 ?hg (N := 7) ?hd (xs := ([] : List (S113))) (inner := []) (ok := fun _ => True) (okp := fun _ => True) ?hr ?hp (fun _ hk => hk) trivial (Below.refl _ _) (Nat.le_refl _) (by simp) ?_; (case hd => rfl); (case hg => rfl); (case hr => first | (go_simp; done) | (go_simp; rfl)); (case hp => exact (Reps.none _ _)); intro v306 w4 ho5 hb hg_ hnew_; clear hg_ hnew_; (first | rw [← Ny305.out] at ho5 | (simp only [Int.reduceToNat] at ho5; rw [← Ny305.out] at ho5)); have n0_ := zM (Kd.R_lower ho5 (keep_size (w := w) (g := g) (row := none) (by repeat (first | (with_reducible first | exact HK.out | apply KeepBut.set_ | apply keep_drewN | apply keep_drew | apply keep_alloc) | exact HK.out)))); have n1_ := zM (IsS111.below (by repeat (first | (with_reducible first | exact HI0.out | apply IsS111.alloc | apply IsS111.drewN | apply IsS111.drew | apply IsS111.set_1) | exact HI0.out)) hb); have n2_ := zM (KeepBut.trans (by repeat (first | (with_reducible first | exact HK.out | apply KeepBut.set_ | apply keep_drewN | apply keep_drew | apply keep_alloc) | exact HK.out)) (KeepBut.of_below hb g none) (.inl rfl)); have n3_ := zM (zG (by repeat (first | (with_reducible first | exact HB.out | apply zU | apply zV | apply zW | refine zH ?_ (IsS111.ge HI0.out)) | exact HB.out)) hb); clear HI0; clear HK; clear HB; have HO307 := n0_; have HI0 := n1_; have HK := n2_; have HB := n3_; clear n0_ n1_ n2_ n3_; clear hb ho5) | ((with_reducible refine gate_callee (f := 70) rfl ?_); refine goesL_ (some 9) rfl rfl Try.func70 (by kernel_rfl) rfl #[.pointer (some ⟨g, 0, none⟩), .int .i64 3] rfl (by (try simp only [List.map_toArray, List.map_cons, List.map_nil]); first | done | rfl | (simp only [List.length_drop, List.length_take]; rfl)) ?_; (with_reducible refine (spec_l20Rd_pick.calls k g s0_0 s0_1 3 t308 t309 w0 _ ?side1 ?side2 A3.out).mono ?_); (case side1 => repeat (first | (with_reducible first | exact HI0.out | apply IsS111.alloc | apply IsS111.drewN | apply IsS111.drew | apply IsS111.set_1) | exact HI0.out)); (case side2 => repeat (first | (with_reducible first | exact HB.out | apply zU | apply zV | apply zW | refine zH ?_ (IsS111.ge HI0.out)) | exact HB.out)); rintro e w6 ⟨rfl, hi, hb, hk⟩; refine ⟨_, rfl, ?_⟩; have n0_ := zM (Kd.R_mono (Kd.R_keep (IsS111.apart (show IsS111 w0 _ g s0_0 s0_1 from by repeat (first | (with_reducible first | exact HI0.out | apply IsS111.alloc | apply IsS111.drewN | apply IsS111.drew | apply IsS111.set_1) | exact HI0.out)) (by (with_reducible repeat (first | apply zR | apply zS | apply zT)); exact HO307.out) (by decide)) hk (fun _ h => h.2)) (fun _ h => h.1)); have n1_ := zM (KeepBut.trans (by repeat (first | (with_reducible first | exact HK.out | apply KeepBut.set_ | apply keep_drewN | apply keep_drew | apply keep_alloc) | exact HK.out)) hk (.inl rfl)); have n2_ := zM (hb); have n3_ := zM (hi); clear HO307; clear HK; clear HB; clear HI0; have HO307 := n0_; have HK := n1_; have HB := n2_; have HI0 := n3_; clear n0_ n1_ n2_ n3_; (try clear hb); (try clear hb2); (try clear hk); (try clear hi)))
 go_loopg [5, 6] k (fun kq v5 v6 w' => ∃ (x5_1 : List (S113)) (x6_1 : Int) (x1001_1 : Int), v6 = .int .i64 x6_1 ∧ Aside0 (spec_l20Columns.l0 kq a1 x5_1 x6_1 s0_0 x1001_1 = some (r1, r2)) ∧ Aside0 (kq ≤ k) ∧ Aside0 (Kd.R k113 113 w' w.heap.size (fun _ => True) v5 x5_1) ∧ Aside0 (IsS111 w0 w' g s0_0 x1001_1) ∧ Aside0 (KeepBut w w' g none) ∧ Aside0 (Below w0.heap.size w0 w'))
 case atStart => exact ⟨(y305), (wrap64 (1 + t308)), (t309), (by first | rfl | (simp; done) | (simp [*]; done)), H', ⟨Nat.le_refl _⟩, ⟨by (with_reducible repeat (first | apply zR | apply zS | apply zT)); exact HO307.out⟩, ⟨by repeat (first | (with_reducible first | exact HI0.out | apply IsS111.alloc | apply IsS111.drewN | apply IsS111.drew | apply IsS111.set_1) | exact HI0.out)⟩, ⟨by repeat (first | (with_reducible first | exact HK.out | apply KeepBut.set_ | apply keep_drewN | apply keep_drew | apply keep_alloc) | exact HK.out)⟩, ⟨by repeat (first | (with_reducible first | exact HB.out | apply zU | apply zV | apply zW | refine zH ?_ (IsS111.ge HI0.out)) | exact HB.out)⟩⟩
 case round =>
  clear H'
  try clear p2
  try clear c4
  try clear p6
  obtain ⟨x5_1, x6_1, x1001_1, rfl, HA, HK1, HO_5, HI0, HK, HB⟩ := hrel
  cases gk with
  | zero => exact absurd HA.out (by simp [spec_l20Columns.l0])
  | succ k1 =>
   have H := HA.out
   clear HA
   simp only [spec_l20Columns.l0] at H
   by_cases c7 : x6_1 > 0
   ·
    rw [if_pos c7] at H
    have c7b0 : decide (0 < x6_1) = true := decide_eq_true c7
    clear c7
    obtain ⟨y310, hy310⟩ : ∃ y_ : List Int, y_ = (([1, 1, 2, 3] : List Int)) := ⟨_, rfl⟩
    replace H : ((spec_l20Rd_pick.f k1 s0_0 x1001_1 4).bind fun bt313 => (if 0 ≤ bt313.1 then (if bt313.1 < (y310.length : Int) then ((spec_l20Rd_pick.f k1 s0_0 bt313.2 3).bind fun bt316 => (if x5_1.length < 8796093022208 then (spec_l20Columns.l0 k1 a1 (x5_1 ++ [(⟨rd y310 bt313.1, decide (bt316.1 > 0)⟩ : S113)]) (wrap64 (x6_1 - 1)) s0_0 bt316.2) else (none))) else (none)) else (none))) = some (r1, r2) := by first | (rw [hy310]; with_reducible exact H) | (have H2_ := (Option.bind_some _ _).symm.trans H; rw [hy310]; with_reducible exact H2_) | (have H2_ := (Option.bind_some _ _).symm.trans H; with_reducible exact H2_) | with_reducible exact H | (rw [hy310]; exact H) | exact H
    have Ny310 := zM hy310
    clear hy310
    replace H := Option.bind_eq_some_iff.mp H
    obtain ⟨⟨t313, t314⟩, A80, H⟩ := H
    replace H : (if 0 ≤ t313 then (if t313 < (y310.length : Int) then ((spec_l20Rd_pick.f k1 s0_0 t314 3).bind fun bt316 => (if x5_1.length < 8796093022208 then (spec_l20Columns.l0 k1 a1 (x5_1 ++ [(⟨rd y310 t313, decide (bt316.1 > 0)⟩ : S113)]) (wrap64 (x6_1 - 1)) s0_0 bt316.2) else (none))) else (none)) else (none)) = some (r1, r2) := H
    have A8 := zM A80
    clear A80
    by_cases c9 : 0 ≤ t313
    ·
     rw [if_pos c9] at H
     have c9b0 : decide (0 ≤ t313) = true := decide_eq_true c9
     clear c9
     by_cases c10 : t313 < (y310.length : Int)
     ·
      rw [if_pos c10] at H
      have c10b0 : decide (t313 < (y310.length : Int)) = true := decide_eq_true c10
      clear c10
      replace H := Option.bind_eq_some_iff.mp H
      obtain ⟨⟨t316, t317⟩, A110, H⟩ := H
      replace H : (if x5_1.length < 8796093022208 then (spec_l20Columns.l0 k1 a1 (x5_1 ++ [(⟨rd y310 t313, decide (t316 > 0)⟩ : S113)]) (wrap64 (x6_1 - 1)) s0_0 t317) else (none)) = some (r1, r2) := H
      have A11 := zM A110
      clear A110
      by_cases c12 : x5_1.length < 8796093022208
      ·
       rw [if_pos c12] at H
       have LMc12 := zM c12
       clear c12
       obtain ⟨y318, hy318⟩ : ∃ y_ : List (S113), y_ = (x5_1 ++ [(⟨rd y310 t313, decide (t316 > 0)⟩ : S113)]) := ⟨_, rfl⟩
       replace H : (spec_l20Columns.l0 k1 a1 y318 (wrap64 (x6_1 - 1)) s0_0 t317) = some (r1, r2) := by first | (rw [hy318]; with_reducible exact H) | (have H2_ := (Option.bind_some _ _).symm.trans H; rw [hy318]; with_reducible exact H2_) | (have H2_ := (Option.bind_some _ _).symm.trans H; with_reducible exact H2_) | with_reducible exact H | (rw [hy318]; exact H) | exact H
       have Ny318 := zM hy318
       clear hy318
       have H' := zM H
       clear H
       obtain ⟨Ao13, co13, eo13⟩ := Kd.R_slice HO_5.out
       subst eo13
       try go_wp2
       have pi315 : (0 ≤ (t313 : Int)) = True := eq_true (zL (by assumption))
       have qi315 : (t313 < (y310.length : Int)) = True := eq_true (zL (by assumption))
       have n0_ := zM (zT HO_5.out)
       have n1_ := zM (IsS111.drew HI0.out)
       have n2_ := zM (keep_drew HK.out)
       have n3_ := zM (zW HB.out)
       clear HO_5
       clear HI0
       clear HK
       clear HB
       have HO_5 := n0_
       have HI0 := n1_
       have HK := n2_
       have HB := n3_
       clear n0_ n1_ n2_ n3_
       refine start_ (n := 13) (S := fun w' => True) (ds := []) #[ff, ff, ff, ff, ff, ff, ff, ff, ff, ff, ff, ff, ff] (by kernel_rfl) rfl rfl trivial (fun hHeld => ?_); refine with_tabW spec_l20Columns.tab5 spec_l20Columns.bits5 (fun HT_ HW_ => ?_)
       generalize wr.drew = w14 at HO_5 HI0 HK HB hHeld ⊢
       refine pure_ (i := 0) (N := some 15) (v := ?_) (a' := ?_) #[tt, ff, ff, ff, ff, ff, ff, ff, ff, ff, ff, ff, ff] rfl rfl (any_of HT_.out (by kernel_rfl)) (fun _ _ _ h => h) (Or.inl ⟨by rfl, ?_⟩) ?_ ?_
       rotate_left
       ·
        intro w'
        go_simp
        with_reducible rfl
       rotate_left
       ·
        simp only [Act.put, zA, zB, zC, i64_w, i32_w]
        rfl
       refine pure_ (i := 2) (N := some 17) (v := ?_) (a' := ?_) #[tt, ff, tt, ff, ff, ff, ff, ff, ff, ff, ff, ff, ff] rfl rfl (any_of HT_.out (by kernel_rfl)) (fun _ _ _ h => h) (Or.inl ⟨by rfl, ?_⟩) ?_ ?_
       rotate_left
       ·
        intro w'
        go_simp
        with_reducible rfl
       rotate_left
       ·
        simp only [Act.put, zA, zB, zC, i64_w, i32_w]
        rfl
       refine pure_ (i := 6) (N := some 21) (v := ?_) (a' := ?_) #[tt, ff, tt, ff, ff, ff, tt, ff, ff, ff, ff, ff, ff] rfl rfl (any_of HT_.out (by kernel_rfl)) (fun _ _ _ h => h) (Or.inl ⟨by rfl, ?_⟩) ?_ ?_
       rotate_left
       ·
        intro w'
        go_simp
        with_reducible rfl
       rotate_left
       ·
        simp only [Act.put, zA, zB, zC, i64_w, i32_w]
        rfl
       refine join_ (σ := Value × Addr) 4 #[tt, tt, tt, tt, tt, tt, tt, tt, tt, ff, ff, ff, ff] (fun s_ => [(16, s_.1), (18, .int .i64 t313), (20, .int .i64 (rd y310 t313)), (22, .int .i64 t316), (19, .pointer (some (s_.2.add (t313).toNat))), (23, .bool (decide (t316 > 0)))]) (fun s_ w' => (Kd.R (Kd.int .i64) 3 w' w.heap.size (fun _ => True) s_.1 y310) ∧ (Kd.R k113 113 w' w.heap.size (fun _ => True) (.slice Ao13 x5_1.length co13) x5_1) ∧ (∃ c_, (s_.1 : Value) = .slice (some s_.2) y310.length c_) ∧ (IsS111 w0 w' g s0_0 t317) ∧ (KeepBut w w' g none) ∧ (Below w0.heap.size w0 w')) ?_ ?_
       rotate_left
       ·
        intro hJ1_3_5_7
        refine join_ (σ := Value × Addr) 6 #[tt, tt, tt, tt, tt, tt, tt, ff, ff, ff, ff, ff, ff] (fun s_ => [(16, s_.1), (18, .int .i64 t313), (20, .int .i64 (rd y310 t313)), (19, .pointer (some (s_.2.add (t313).toNat)))]) (fun s_ w' => (Kd.R (Kd.int .i64) 3 w' w.heap.size (fun _ => True) s_.1 y310) ∧ (Kd.R k113 113 w' w.heap.size (fun _ => True) (.slice Ao13 x5_1.length co13) x5_1) ∧ (∃ c_, (s_.1 : Value) = .slice (some s_.2) y310.length c_) ∧ (IsS111 w0 w' g s0_0 t314) ∧ (KeepBut w w' g none) ∧ (Below w0.heap.size w0 w')) ?_ ?_
        rotate_left
        ·
         intro hJ1_3_5
         refine join_ (σ := Value × Addr) 5 #[tt, tt, tt, tt, tt, ff, tt, tt, tt, ff, ff, ff, ff] (fun s_ => [(16, s_.1), (18, .int .i64 t313), (22, .int .i64 t316), (19, .pointer (some (s_.2.add (t313).toNat))), (23, .bool (decide (t316 > 0)))]) (fun s_ w' => (Kd.R (Kd.int .i64) 3 w' w.heap.size (fun _ => True) s_.1 y310) ∧ (Kd.R k113 113 w' w.heap.size (fun _ => True) (.slice Ao13 x5_1.length co13) x5_1) ∧ (∃ c_, (s_.1 : Value) = .slice (some s_.2) y310.length c_) ∧ (IsS111 w0 w' g s0_0 t317) ∧ (KeepBut w w' g none) ∧ (Below w0.heap.size w0 w')) ?_ ?_
         rotate_left
         ·
          intro hJ1_3_7
          refine join_ (σ := Value × Addr) 7 #[tt, tt, tt, tt, tt, ff, tt, ff, ff, ff, ff, ff, ff] (fun s_ => [(16, s_.1), (18, .int .i64 t313), (19, .pointer (some (s_.2.add (t313).toNat)))]) (fun s_ w' => (Kd.R (Kd.int .i64) 3 w' w.heap.size (fun _ => True) s_.1 y310) ∧ (Kd.R k113 113 w' w.heap.size (fun _ => True) (.slice Ao13 x5_1.length co13) x5_1) ∧ (∃ c_, (s_.1 : Value) = .slice (some s_.2) y310.length c_) ∧ (IsS111 w0 w' g s0_0 t314) ∧ (KeepBut w w' g none) ∧ (Below w0.heap.size w0 w')) ?_ ?_
          rotate_left
          ·
           intro hJ1_3
           refine join_ (σ := Unit) 7 #[tt, ff, tt, tt, ff, ff, tt, tt, tt, ff, ff, ff, ff] (fun s_ => [(18, .int .i64 t313), (22, .int .i64 t316), (23, .bool (decide (t316 > 0)))]) (fun s_ w' => (Kd.R k113 113 w' w.heap.size (fun _ => True) (.slice Ao13 x5_1.length co13) x5_1) ∧ (IsS111 w0 w' g s0_0 t317) ∧ (KeepBut w w' g none) ∧ (Below w0.heap.size w0 w')) ?_ ?_
           rotate_left
           ·
            intro hJ3_7
            refine join_ (σ := Value × Addr) 9 #[tt, tt, tt, ff, ff, ff, tt, ff, ff, ff, ff, ff, ff] (fun s_ => [(16, s_.1)]) (fun s_ w' => (Kd.R (Kd.int .i64) 3 w' w.heap.size (fun _ => True) s_.1 y310) ∧ (Kd.R k113 113 w' w.heap.size (fun _ => True) (.slice Ao13 x5_1.length co13) x5_1) ∧ (∃ c_, (s_.1 : Value) = .slice (some s_.2) y310.length c_) ∧ (IsS111 w0 w' g s0_0 x1001_1) ∧ (KeepBut w w' g none) ∧ (Below w0.heap.size w0 w')) ?_ ?_
            rotate_left
            ·
             intro hJ1
             refine join_ (σ := Unit) 9 #[tt, ff, tt, tt, ff, ff, tt, ff, ff, ff, ff, ff, ff] (fun s_ => [(18, .int .i64 t313)]) (fun s_ w' => (Kd.R k113 113 w' w.heap.size (fun _ => True) (.slice Ao13 x5_1.length co13) x5_1) ∧ (IsS111 w0 w' g s0_0 t314) ∧ (KeepBut w w' g none) ∧ (Below w0.heap.size w0 w')) ?_ ?_
             rotate_left
             ·
              intro hJ3
              refine two_ (i := 1) (j := 3) (Ni := some 16) (Nj := some 18) #[tt, tt, tt, ff, ff, ff, tt, ff, ff, ff, ff, ff, ff] #[tt, ff, tt, tt, ff, ff, tt, ff, ff, ff, ff, ff, ff] rfl rfl rfl rfl (two_of HT_.out (by kernel_rfl)) (by decide) (by decide) (fun K hK => ?_) (fun K hK => ?_)
              ·
               skip
               refine Kd.R_lit_step (Kd.int .i64) _ 3 ?hg (N := 16) ?hd (xs := ([1, 1, 2, 3] : List Int)) (inner := [.int .i64 1, .int .i64 1, .int .i64 2, .int .i64 3]) (ok := fun _ => True) (okp := fun _ => True) ?hr ?hp (fun _ hk => hk) trivial (Below.refl _ _) (Nat.le_refl _) (by simp) ?_; (case hd => rfl); (case hg => rfl); (case hr => first | (go_simp; done) | (go_simp; rfl)); (case hp => exact (Reps.one (show Kd.M (Kd.int .i64) _ _ _ 1 [.int .i64 1] from rfl) (Reps.one (show Kd.M (Kd.int .i64) _ _ _ 1 [.int .i64 1] from rfl) (Reps.one (show Kd.M (Kd.int .i64) _ _ _ 2 [.int .i64 2] from rfl) (Reps.one (show Kd.M (Kd.int .i64) _ _ _ 3 [.int .i64 3] from rfl) (Reps.none _ _))))))
               intro v311 w15 ho16 hb hg_ hnew_
               clear hg_ hnew_
               (first | rw [← Ny310.out] at ho16 | (simp only [Int.reduceToNat] at ho16; rw [← Ny310.out] at ho16))
               have n0_ := zM (Kd.R_below (by (with_reducible repeat (first | apply zR | apply zS | apply zT)); exact HO_5.out) hb)
               have n1_ := zM (Kd.R_lower ho16 (keep_size (w := w) (g := g) (row := none) (by repeat (first | (with_reducible first | exact HK.out | apply KeepBut.set_ | apply keep_drewN | apply keep_drew | apply keep_alloc) | exact HK.out))))
               have n2_ := zM (IsS111.below (by repeat (first | (with_reducible first | exact HI0.out | apply IsS111.alloc | apply IsS111.drewN | apply IsS111.drew | apply IsS111.set_1) | exact HI0.out)) hb)
               have n3_ := zM (KeepBut.trans (by repeat (first | (with_reducible first | exact HK.out | apply KeepBut.set_ | apply keep_drewN | apply keep_drew | apply keep_alloc) | exact HK.out)) (KeepBut.of_below hb g none) (.inl rfl))
               have n4_ := zM (zG (by repeat (first | (with_reducible first | exact HB.out | apply zU | apply zV | apply zW | refine zH ?_ (IsS111.ge HI0.out)) | exact HB.out)) hb)
               clear HO_5
               clear HI0
               clear HK
               clear HB
               have HO_5 := n0_
               have HO312 := n1_
               have HI0 := n2_
               have HK := n3_
               have HB := n4_
               clear n0_ n1_ n2_ n3_ n4_
               clear hb ho16
               obtain ⟨Ao17, co17, eo17⟩ := Kd.R_slice HO312.out
               subst eo17
               obtain ⟨ado17, fo17, _⟩ := Kd.at_int (Kd.R_reads' HO312.out).2.2 0 (by decide) (by rw [Ny310.out]; simp)
               cases fo17
               refine hK.out _ _ trivial (fun hHeld => ?_)
               clear hK K
               refine norm_ (a' := ?_) ?_ ?_
               rotate_left
               ·
                show Act.put _ (some 16) _ = _
                simp only [Act.put, zA, zB, zC, i64_w, i32_w]
                rfl
               exact norm_ (by first | (simp only [putAll, Act.put, zA, zB, zC]; done) | (simp only [putAll, Act.put, zA, zB, zC]; rfl)) (hJ1 (.slice (some ado17) y310.length co17, ado17) _ ⟨(by (with_reducible repeat (first | apply zR | apply zS | apply zT)); exact HO312.out), (by (with_reducible repeat (first | apply zR | apply zS | apply zT)); exact HO_5.out), ⟨_, rfl⟩, (by repeat (first | (with_reducible first | exact HI0.out | apply IsS111.alloc | apply IsS111.drewN | apply IsS111.drew | apply IsS111.set_1) | exact HI0.out)), (by repeat (first | (with_reducible first | exact HK.out | apply KeepBut.set_ | apply keep_drewN | apply keep_drew | apply keep_alloc) | exact HK.out)), (by repeat (first | (with_reducible first | exact HB.out | apply zU | apply zV | apply zW | refine zH ?_ (IsS111.ge HI0.out)) | exact HB.out))⟩)
              ·
               skip
               refine goes_ Try.func70 (by kernel_rfl) rfl #[.pointer (some ⟨g, 0, none⟩), .int .i64 4] (by rfl) rfl rfl (by (try simp only [List.map_toArray, List.map_cons, List.map_nil]); first | done | rfl | (simp only [List.length_drop, List.length_take]; rfl)) ?_
               with_reducible refine (spec_l20Rd_pick.calls k1 g s0_0 x1001_1 4 t313 t314 w0 _ ?side1 ?side2 A8.out).mono ?_
               (case side1 => repeat (first | (with_reducible first | exact HI0.out | apply IsS111.alloc | apply IsS111.drewN | apply IsS111.drew | apply IsS111.set_1) | exact HI0.out))
               (case side2 => repeat (first | (with_reducible first | exact HB.out | apply zU | apply zV | apply zW | refine zH ?_ (IsS111.ge HI0.out)) | exact HB.out))
               rintro e w15 ⟨rfl, hi, hb, hk⟩
               refine ⟨_, rfl, ?_⟩
               have n0_ := zM (Kd.R_mono (Kd.R_keep (IsS111.apart (show IsS111 w0 _ g s0_0 x1001_1 from by repeat (first | (with_reducible first | exact HI0.out | apply IsS111.alloc | apply IsS111.drewN | apply IsS111.drew | apply IsS111.set_1) | exact HI0.out)) (by (with_reducible repeat (first | apply zR | apply zS | apply zT)); exact HO_5.out) (by decide)) hk (fun _ h => h.2)) (fun _ h => h.1))
               have n1_ := zM (KeepBut.trans (by repeat (first | (with_reducible first | exact HK.out | apply KeepBut.set_ | apply keep_drewN | apply keep_drew | apply keep_alloc) | exact HK.out)) hk (.inl rfl))
               have n2_ := zM (hb)
               have n3_ := zM (hi)
               clear HO_5
               clear HK
               clear HB
               clear HI0
               have HO_5 := n0_
               have HK := n1_
               have HB := n2_
               have HI0 := n3_
               clear n0_ n1_ n2_ n3_
               (try clear hb)
               (try clear hb2)
               (try clear hk)
               (try clear hi)
               refine hK.out _ _ trivial (fun hHeld => ?_)
               clear hK K
               refine norm_ (a' := ?_) ?_ ?_
               rotate_left
               ·
                show Act.put _ (some 18) _ = _
                simp only [Act.put, zA, zB, zC, i64_w, i32_w]
                rfl
               exact norm_ (by first | (simp only [putAll, Act.put, zA, zB, zC]; done) | (simp only [putAll, Act.put, zA, zB, zC]; rfl)) (hJ3 () _ ⟨(by (with_reducible repeat (first | apply zR | apply zS | apply zT)); exact HO_5.out), (by repeat (first | (with_reducible first | exact HI0.out | apply IsS111.alloc | apply IsS111.drewN | apply IsS111.drew | apply IsS111.set_1) | exact HI0.out)), (by repeat (first | (with_reducible first | exact HK.out | apply KeepBut.set_ | apply keep_drewN | apply keep_drew | apply keep_alloc) | exact HK.out)), (by repeat (first | (with_reducible first | exact HB.out | apply zU | apply zV | apply zW | refine zH ?_ (IsS111.ge HI0.out)) | exact HB.out))⟩)
             ·
              skip
              rintro _ w16 ⟨h0_, h1_, h2_, h3_⟩
              have n0_ : Aside0 (Kd.R k113 113 w16 w.heap.size (fun _ => True) (.slice Ao13 x5_1.length co13) x5_1) := ⟨h0_⟩
              have n1_ : Aside0 (IsS111 w0 w16 g s0_0 t314) := ⟨h1_⟩
              have n2_ : Aside0 (KeepBut w w16 g none) := ⟨h2_⟩
              have n3_ : Aside0 (Below w0.heap.size w0 w16) := ⟨h3_⟩
              clear HO_5
              clear HI0
              clear HK
              clear HB
              clear h0_ h1_ h2_ h3_
              have HO_5 := n0_
              have HI0 := n1_
              have HK := n2_
              have HB := n3_
              clear n0_ n1_ n2_ n3_
              have hHeld := trivial
              refine norm_ (a' := ?_) ?_ ?_
              rotate_left
              ·
               simp only [putAll, Act.put, zA, zB, zC]
               rfl
              refine two_ (i := 1) (j := 7) (Ni := some 16) (Nj := some 22) #[tt, tt, tt, tt, ff, ff, tt, ff, ff, ff, ff, ff, ff] #[tt, ff, tt, tt, ff, ff, tt, tt, ff, ff, ff, ff, ff] rfl rfl rfl rfl (two_of HT_.out (by kernel_rfl)) (by decide) (by decide) (fun K hK => ?_) (fun K hK => ?_)
              ·
               skip
               refine Kd.R_lit_step (Kd.int .i64) _ 3 ?hg (N := 16) ?hd (xs := ([1, 1, 2, 3] : List Int)) (inner := [.int .i64 1, .int .i64 1, .int .i64 2, .int .i64 3]) (ok := fun _ => True) (okp := fun _ => True) ?hr ?hp (fun _ hk => hk) trivial (Below.refl _ _) (Nat.le_refl _) (by simp) ?_; (case hd => rfl); (case hg => rfl); (case hr => first | (go_simp; done) | (go_simp; rfl)); (case hp => exact (Reps.one (show Kd.M (Kd.int .i64) _ _ _ 1 [.int .i64 1] from rfl) (Reps.one (show Kd.M (Kd.int .i64) _ _ _ 1 [.int .i64 1] from rfl) (Reps.one (show Kd.M (Kd.int .i64) _ _ _ 2 [.int .i64 2] from rfl) (Reps.one (show Kd.M (Kd.int .i64) _ _ _ 3 [.int .i64 3] from rfl) (Reps.none _ _))))))
               intro v311 w17 ho18 hb hg_ hnew_
               clear hg_ hnew_
               (first | rw [← Ny310.out] at ho18 | (simp only [Int.reduceToNat] at ho18; rw [← Ny310.out] at ho18))
               have n0_ := zM (Kd.R_below (by (with_reducible repeat (first | apply zR | apply zS | apply zT)); exact HO_5.out) hb)
               have n1_ := zM (Kd.R_lower ho18 (keep_size (w := w) (g := g) (row := none) (by repeat (first | (with_reducible first | exact HK.out | apply KeepBut.set_ | apply keep_drewN | apply keep_drew | apply keep_alloc) | exact HK.out))))
               have n2_ := zM (IsS111.below (by repeat (first | (with_reducible first | exact HI0.out | apply IsS111.alloc | apply IsS111.drewN | apply IsS111.drew | apply IsS111.set_1) | exact HI0.out)) hb)
               have n3_ := zM (KeepBut.trans (by repeat (first | (with_reducible first | exact HK.out | apply KeepBut.set_ | apply keep_drewN | apply keep_drew | apply keep_alloc) | exact HK.out)) (KeepBut.of_below hb g none) (.inl rfl))
               have n4_ := zM (zG (by repeat (first | (with_reducible first | exact HB.out | apply zU | apply zV | apply zW | refine zH ?_ (IsS111.ge HI0.out)) | exact HB.out)) hb)
               clear HO_5
               clear HI0
               clear HK
               clear HB
               have HO_5 := n0_
               have HO312 := n1_
               have HI0 := n2_
               have HK := n3_
               have HB := n4_
               clear n0_ n1_ n2_ n3_ n4_
               clear hb ho18
               obtain ⟨Ao19, co19, eo19⟩ := Kd.R_slice HO312.out
               subst eo19
               obtain ⟨ado19, fo19, _⟩ := Kd.at_int (Kd.R_reads' HO312.out).2.2 0 (by decide) (by rw [Ny310.out]; simp)
               cases fo19
               refine hK.out _ _ trivial (fun hHeld => ?_)
               clear hK K
               refine norm_ (a' := ?_) ?_ ?_
               rotate_left
               ·
                show Act.put _ (some 16) _ = _
                simp only [Act.put, zA, zB, zC, i64_w, i32_w]
                rfl
               refine pure_ (i := 4) (N := some 19) (v := ?_) (a' := ?_) #[tt, tt, tt, tt, tt, ff, tt, ff, ff, ff, ff, ff, ff] rfl rfl (any_of HT_.out (by kernel_rfl)) (fun _ _ _ h => h) (Or.inl ⟨by rfl, ?_⟩) ?_ ?_
               rotate_left
               ·
                intro w'
                go_simp
                with_reducible rfl
               rotate_left
               ·
                simp only [Act.put, zA, zB, zC, i64_w, i32_w]
                rfl
               exact norm_ (by first | (simp only [putAll, Act.put, zA, zB, zC]; done) | (simp only [putAll, Act.put, zA, zB, zC]; rfl)) (hJ1_3 (.slice (some ado19) y310.length co19, ado19) _ ⟨(by (with_reducible repeat (first | apply zR | apply zS | apply zT)); exact HO312.out), (by (with_reducible repeat (first | apply zR | apply zS | apply zT)); exact HO_5.out), ⟨_, rfl⟩, (by repeat (first | (with_reducible first | exact HI0.out | apply IsS111.alloc | apply IsS111.drewN | apply IsS111.drew | apply IsS111.set_1) | exact HI0.out)), (by repeat (first | (with_reducible first | exact HK.out | apply KeepBut.set_ | apply keep_drewN | apply keep_drew | apply keep_alloc) | exact HK.out)), (by repeat (first | (with_reducible first | exact HB.out | apply zU | apply zV | apply zW | refine zH ?_ (IsS111.ge HI0.out)) | exact HB.out))⟩)
              ·
               skip
               refine goes_ Try.func70 (by kernel_rfl) rfl #[.pointer (some ⟨g, 0, none⟩), .int .i64 3] (by rfl) rfl rfl (by (try simp only [List.map_toArray, List.map_cons, List.map_nil]); first | done | rfl | (simp only [List.length_drop, List.length_take]; rfl)) ?_
               with_reducible refine (spec_l20Rd_pick.calls k1 g s0_0 t314 3 t316 t317 w0 _ ?side1 ?side2 A11.out).mono ?_
               (case side1 => repeat (first | (with_reducible first | exact HI0.out | apply IsS111.alloc | apply IsS111.drewN | apply IsS111.drew | apply IsS111.set_1) | exact HI0.out))
               (case side2 => repeat (first | (with_reducible first | exact HB.out | apply zU | apply zV | apply zW | refine zH ?_ (IsS111.ge HI0.out)) | exact HB.out))
               rintro e w17 ⟨rfl, hi, hb, hk⟩
               refine ⟨_, rfl, ?_⟩
               have n0_ := zM (Kd.R_mono (Kd.R_keep (IsS111.apart (show IsS111 w0 _ g s0_0 t314 from by repeat (first | (with_reducible first | exact HI0.out | apply IsS111.alloc | apply IsS111.drewN | apply IsS111.drew | apply IsS111.set_1) | exact HI0.out)) (by (with_reducible repeat (first | apply zR | apply zS | apply zT)); exact HO_5.out) (by decide)) hk (fun _ h => h.2)) (fun _ h => h.1))
               have n1_ := zM (KeepBut.trans (by repeat (first | (with_reducible first | exact HK.out | apply KeepBut.set_ | apply keep_drewN | apply keep_drew | apply keep_alloc) | exact HK.out)) hk (.inl rfl))
               have n2_ := zM (hb)
               have n3_ := zM (hi)
               clear HO_5
               clear HK
               clear HB
               clear HI0
               have HO_5 := n0_
               have HK := n1_
               have HB := n2_
               have HI0 := n3_
               clear n0_ n1_ n2_ n3_
               (try clear hb)
               (try clear hb2)
               (try clear hk)
               (try clear hi)
               refine hK.out _ _ trivial (fun hHeld => ?_)
               clear hK K
               refine norm_ (a' := ?_) ?_ ?_
               rotate_left
               ·
                show Act.put _ (some 22) _ = _
                simp only [Act.put, zA, zB, zC, i64_w, i32_w]
                rfl
               refine pure_ (i := 8) (N := some 23) (v := ?_) (a' := ?_) #[tt, ff, tt, tt, ff, ff, tt, tt, tt, ff, ff, ff, ff] rfl rfl (any_of HT_.out (by kernel_rfl)) (fun _ _ _ h => h) (Or.inl ⟨by rfl, ?_⟩) ?_ ?_
               rotate_left
               ·
                intro w'
                go_simp
                with_reducible rfl
               rotate_left
               ·
                simp only [Act.put, zA, zB, zC, i64_w, i32_w]
                rfl
               exact norm_ (by first | (simp only [putAll, Act.put, zA, zB, zC]; done) | (simp only [putAll, Act.put, zA, zB, zC]; rfl)) (hJ3_7 () _ ⟨(by (with_reducible repeat (first | apply zR | apply zS | apply zT)); exact HO_5.out), (by repeat (first | (with_reducible first | exact HI0.out | apply IsS111.alloc | apply IsS111.drewN | apply IsS111.drew | apply IsS111.set_1) | exact HI0.out)), (by repeat (first | (with_reducible first | exact HK.out | apply KeepBut.set_ | apply keep_drewN | apply keep_drew | apply keep_alloc) | exact HK.out)), (by repeat (first | (with_reducible first | exact HB.out | apply zU | apply zV | apply zW | refine zH ?_ (IsS111.ge HI0.out)) | exact HB.out))⟩)
            ·
             skip
             rintro ⟨v311, adz_v311⟩ w18 ⟨h0_, h1_, h2_, h3_, h4_, h5_⟩
             have n0_ : Aside0 (Kd.R (Kd.int .i64) 3 w18 w.heap.size (fun _ => True) v311 y310) := ⟨h0_⟩
             have n1_ : Aside0 (Kd.R k113 113 w18 w.heap.size (fun _ => True) (.slice Ao13 x5_1.length co13) x5_1) := ⟨h1_⟩
             have n2_ : Aside0 (∃ c_, (v311 : Value) = .slice (some adz_v311) y310.length c_) := ⟨h2_⟩
             have n3_ : Aside0 (IsS111 w0 w18 g s0_0 x1001_1) := ⟨h3_⟩
             have n4_ : Aside0 (KeepBut w w18 g none) := ⟨h4_⟩
             have n5_ : Aside0 (Below w0.heap.size w0 w18) := ⟨h5_⟩
             clear HO_5
             clear HI0
             clear HK
             clear HB
             clear h0_ h1_ h2_ h3_ h4_ h5_
             have HO312 := n0_
             have HO_5 := n1_
             have HA_HO312 := n2_
             have HI0 := n3_
             have HK := n4_
             have HB := n5_
             clear n0_ n1_ n2_ n3_ n4_ n5_
             have hHeld := trivial
             obtain ⟨co19, eo19⟩ := HA_HO312.out
             clear HA_HO312
             subst eo19
             refine norm_ (a' := ?_) ?_ ?_
             rotate_left
             ·
              simp only [putAll, Act.put, zA, zB, zC]
              rfl
             refine one_ (i := 3) (N := some 18) #[tt, tt, tt, tt, ff, ff, tt, ff, ff, ff, ff, ff, ff] rfl rfl (one_of HT_.out (by kernel_rfl)) (by decide) (fun K hK => ?_)
             refine goes_ Try.func70 (by kernel_rfl) rfl #[.pointer (some ⟨g, 0, none⟩), .int .i64 4] (by rfl) rfl rfl (by (try simp only [List.map_toArray, List.map_cons, List.map_nil]); first | done | rfl | (simp only [List.length_drop, List.length_take]; rfl)) ?_
             with_reducible refine (spec_l20Rd_pick.calls k1 g s0_0 x1001_1 4 t313 t314 w0 _ ?side1 ?side2 A8.out).mono ?_
             (case side1 => repeat (first | (with_reducible first | exact HI0.out | apply IsS111.alloc | apply IsS111.drewN | apply IsS111.drew | apply IsS111.set_1) | exact HI0.out))
             (case side2 => repeat (first | (with_reducible first | exact HB.out | apply zU | apply zV | apply zW | refine zH ?_ (IsS111.ge HI0.out)) | exact HB.out))
             rintro e w20 ⟨rfl, hi, hb, hk⟩
             refine ⟨_, rfl, ?_⟩
             have n0_ := zM (Kd.R_mono (Kd.R_keep (IsS111.apart (show IsS111 w0 _ g s0_0 x1001_1 from by repeat (first | (with_reducible first | exact HI0.out | apply IsS111.alloc | apply IsS111.drewN | apply IsS111.drew | apply IsS111.set_1) | exact HI0.out)) (by (with_reducible repeat (first | apply zR | apply zS | apply zT)); exact HO_5.out) (by decide)) hk (fun _ h => h.2)) (fun _ h => h.1))
             have n1_ := zM (Kd.R_mono (Kd.R_keep (IsS111.apart (show IsS111 w0 _ g s0_0 x1001_1 from by repeat (first | (with_reducible first | exact HI0.out | apply IsS111.alloc | apply IsS111.drewN | apply IsS111.drew | apply IsS111.set_1) | exact HI0.out)) (by (with_reducible repeat (first | apply zR | apply zS | apply zT)); exact HO312.out) (by decide)) hk (fun _ h => h.2)) (fun _ h => h.1))
             have n2_ := zM (KeepBut.trans (by repeat (first | (with_reducible first | exact HK.out | apply KeepBut.set_ | apply keep_drewN | apply keep_drew | apply keep_alloc) | exact HK.out)) hk (.inl rfl))
             have n3_ := zM (hb)
             have n4_ := zM (hi)
             clear HO_5
             clear HO312
             clear HK
             clear HB
             clear HI0
             have HO_5 := n0_
             have HO312 := n1_
             have HK := n2_
             have HB := n3_
             have HI0 := n4_
             clear n0_ n1_ n2_ n3_ n4_
             (try clear hb)
             (try clear hb2)
             (try clear hk)
             (try clear hi)
             refine hK.out _ _ trivial (fun hHeld => ?_)
             clear hK K
             refine norm_ (a' := ?_) ?_ ?_
             rotate_left
             ·
              show Act.put _ (some 18) _ = _
              simp only [Act.put, zA, zB, zC, i64_w, i32_w]
              rfl
             refine pure_ (i := 4) (N := some 19) (v := ?_) (a' := ?_) #[tt, tt, tt, tt, tt, ff, tt, ff, ff, ff, ff, ff, ff] rfl rfl (any_of HT_.out (by kernel_rfl)) (fun _ _ _ h => h) (Or.inl ⟨by rfl, ?_⟩) ?_ ?_
             rotate_left
             ·
              intro w'
              go_simp
              with_reducible rfl
             rotate_left
             ·
              simp only [Act.put, zA, zB, zC, i64_w, i32_w]
              rfl
             exact norm_ (by first | (simp only [putAll, Act.put, zA, zB, zC]; done) | (simp only [putAll, Act.put, zA, zB, zC]; rfl)) (hJ1_3 (.slice (some adz_v311) y310.length co19, adz_v311) _ ⟨(by (with_reducible repeat (first | apply zR | apply zS | apply zT)); exact HO312.out), (by (with_reducible repeat (first | apply zR | apply zS | apply zT)); exact HO_5.out), ⟨_, rfl⟩, (by repeat (first | (with_reducible first | exact HI0.out | apply IsS111.alloc | apply IsS111.drewN | apply IsS111.drew | apply IsS111.set_1) | exact HI0.out)), (by repeat (first | (with_reducible first | exact HK.out | apply KeepBut.set_ | apply keep_drewN | apply keep_drew | apply keep_alloc) | exact HK.out)), (by repeat (first | (with_reducible first | exact HB.out | apply zU | apply zV | apply zW | refine zH ?_ (IsS111.ge HI0.out)) | exact HB.out))⟩)
           ·
            skip
            rintro _ w17 ⟨h0_, h1_, h2_, h3_⟩
            have n0_ : Aside0 (Kd.R k113 113 w17 w.heap.size (fun _ => True) (.slice Ao13 x5_1.length co13) x5_1) := ⟨h0_⟩
            have n1_ : Aside0 (IsS111 w0 w17 g s0_0 t317) := ⟨h1_⟩
            have n2_ : Aside0 (KeepBut w w17 g none) := ⟨h2_⟩
            have n3_ : Aside0 (Below w0.heap.size w0 w17) := ⟨h3_⟩
            clear HO_5
            clear HI0
            clear HK
            clear HB
            clear h0_ h1_ h2_ h3_
            have HO_5 := n0_
            have HI0 := n1_
            have HK := n2_
            have HB := n3_
            clear n0_ n1_ n2_ n3_
            have hHeld := trivial
            refine norm_ (a' := ?_) ?_ ?_
            rotate_left
            ·
             simp only [putAll, Act.put, zA, zB, zC]
             rfl
            refine one_ (i := 1) (N := some 16) #[tt, tt, tt, tt, ff, ff, tt, tt, tt, ff, ff, ff, ff] rfl rfl (one_of HT_.out (by kernel_rfl)) (by decide) (fun K hK => ?_)
            refine Kd.R_lit_step (Kd.int .i64) _ 3 ?hg (N := 16) ?hd (xs := ([1, 1, 2, 3] : List Int)) (inner := [.int .i64 1, .int .i64 1, .int .i64 2, .int .i64 3]) (ok := fun _ => True) (okp := fun _ => True) ?hr ?hp (fun _ hk => hk) trivial (Below.refl _ _) (Nat.le_refl _) (by simp) ?_; (case hd => rfl); (case hg => rfl); (case hr => first | (go_simp; done) | (go_simp; rfl)); (case hp => exact (Reps.one (show Kd.M (Kd.int .i64) _ _ _ 1 [.int .i64 1] from rfl) (Reps.one (show Kd.M (Kd.int .i64) _ _ _ 1 [.int .i64 1] from rfl) (Reps.one (show Kd.M (Kd.int .i64) _ _ _ 2 [.int .i64 2] from rfl) (Reps.one (show Kd.M (Kd.int .i64) _ _ _ 3 [.int .i64 3] from rfl) (Reps.none _ _))))))
            intro v311 w18 ho19 hb hg_ hnew_
            clear hg_ hnew_
            (first | rw [← Ny310.out] at ho19 | (simp only [Int.reduceToNat] at ho19; rw [← Ny310.out] at ho19))
            have n0_ := zM (Kd.R_below (by (with_reducible repeat (first | apply zR | apply zS | apply zT)); exact HO_5.out) hb)
            have n1_ := zM (Kd.R_lower ho19 (keep_size (w := w) (g := g) (row := none) (by repeat (first | (with_reducible first | exact HK.out | apply KeepBut.set_ | apply keep_drewN | apply keep_drew | apply keep_alloc) | exact HK.out))))
            have n2_ := zM (IsS111.below (by repeat (first | (with_reducible first | exact HI0.out | apply IsS111.alloc | apply IsS111.drewN | apply IsS111.drew | apply IsS111.set_1) | exact HI0.out)) hb)
            have n3_ := zM (KeepBut.trans (by repeat (first | (with_reducible first | exact HK.out | apply KeepBut.set_ | apply keep_drewN | apply keep_drew | apply keep_alloc) | exact HK.out)) (KeepBut.of_below hb g none) (.inl rfl))
            have n4_ := zM (zG (by repeat (first | (with_reducible first | exact HB.out | apply zU | apply zV | apply zW | refine zH ?_ (IsS111.ge HI0.out)) | exact HB.out)) hb)
            clear HO_5
            clear HI0
            clear HK
            clear HB
            have HO_5 := n0_
            have HO312 := n1_
            have HI0 := n2_
            have HK := n3_
            have HB := n4_
            clear n0_ n1_ n2_ n3_ n4_
            clear hb ho19
            obtain ⟨Ao20, co20, eo20⟩ := Kd.R_slice HO312.out
            subst eo20
            obtain ⟨ado20, fo20, _⟩ := Kd.at_int (Kd.R_reads' HO312.out).2.2 0 (by decide) (by rw [Ny310.out]; simp)
            cases fo20
            refine hK.out _ _ trivial (fun hHeld => ?_)
            clear hK K
            refine norm_ (a' := ?_) ?_ ?_
            rotate_left
            ·
             show Act.put _ (some 16) _ = _
             simp only [Act.put, zA, zB, zC, i64_w, i32_w]
             rfl
            refine pure_ (i := 4) (N := some 19) (v := ?_) (a' := ?_) #[tt, tt, tt, tt, tt, ff, tt, tt, tt, ff, ff, ff, ff] rfl rfl (any_of HT_.out (by kernel_rfl)) (fun _ _ _ h => h) (Or.inl ⟨by rfl, ?_⟩) ?_ ?_
            rotate_left
            ·
             intro w'
             go_simp
             with_reducible rfl
            rotate_left
            ·
             simp only [Act.put, zA, zB, zC, i64_w, i32_w]
             rfl
            exact norm_ (by first | (simp only [putAll, Act.put, zA, zB, zC]; done) | (simp only [putAll, Act.put, zA, zB, zC]; rfl)) (hJ1_3_7 (.slice (some ado20) y310.length co20, ado20) _ ⟨(by (with_reducible repeat (first | apply zR | apply zS | apply zT)); exact HO312.out), (by (with_reducible repeat (first | apply zR | apply zS | apply zT)); exact HO_5.out), ⟨_, rfl⟩, (by repeat (first | (with_reducible first | exact HI0.out | apply IsS111.alloc | apply IsS111.drewN | apply IsS111.drew | apply IsS111.set_1) | exact HI0.out)), (by repeat (first | (with_reducible first | exact HK.out | apply KeepBut.set_ | apply keep_drewN | apply keep_drew | apply keep_alloc) | exact HK.out)), (by repeat (first | (with_reducible first | exact HB.out | apply zU | apply zV | apply zW | refine zH ?_ (IsS111.ge HI0.out)) | exact HB.out))⟩)
          ·
           skip
           rintro ⟨v311, adz_v311⟩ w19 ⟨h0_, h1_, h2_, h3_, h4_, h5_⟩
           have n0_ : Aside0 (Kd.R (Kd.int .i64) 3 w19 w.heap.size (fun _ => True) v311 y310) := ⟨h0_⟩
           have n1_ : Aside0 (Kd.R k113 113 w19 w.heap.size (fun _ => True) (.slice Ao13 x5_1.length co13) x5_1) := ⟨h1_⟩
           have n2_ : Aside0 (∃ c_, (v311 : Value) = .slice (some adz_v311) y310.length c_) := ⟨h2_⟩
           have n3_ : Aside0 (IsS111 w0 w19 g s0_0 t314) := ⟨h3_⟩
           have n4_ : Aside0 (KeepBut w w19 g none) := ⟨h4_⟩
           have n5_ : Aside0 (Below w0.heap.size w0 w19) := ⟨h5_⟩
           clear HO_5
           clear HI0
           clear HK
           clear HB
           clear h0_ h1_ h2_ h3_ h4_ h5_
           have HO312 := n0_
           have HO_5 := n1_
           have HA_HO312 := n2_
           have HI0 := n3_
           have HK := n4_
           have HB := n5_
           clear n0_ n1_ n2_ n3_ n4_ n5_
           have hHeld := trivial
           obtain ⟨co20, eo20⟩ := HA_HO312.out
           clear HA_HO312
           subst eo20
           refine norm_ (a' := ?_) ?_ ?_
           rotate_left
           ·
            simp only [putAll, Act.put, zA, zB, zC]
            rfl
           refine two_ (i := 5) (j := 7) (Ni := some 20) (Nj := some 22) #[tt, tt, tt, tt, tt, tt, tt, ff, ff, ff, ff, ff, ff] #[tt, tt, tt, tt, tt, ff, tt, tt, ff, ff, ff, ff, ff] rfl rfl rfl rfl (two_of HT_.out (by kernel_rfl)) (by decide) (by decide) (fun K hK => ?_) (fun K hK => ?_)
           ·
            skip
            (have p315 : 0 ≤ (t313 : Int) := zL (by assumption); have q315 : t313 < (y310.length : Int) := zL (by assumption); obtain ⟨ad315, e315, hx315_0⟩ := Kd.at_int (Kd.R_reads' HO312.out).2.2 t313 p315 q315; obtain rfl : adz_v311 = ad315 := (by injection e315))
            refine value_ (w1 := ?_) (v := ?_) (by rfl) rfl ?_ ?_
            rotate_left 2
            ·
             go_simp
             constructor
             ·
              rfl
             ·
              rfl
            clear hx315_0
            refine hK.out _ _ trivial (fun hHeld => ?_)
            clear hK K
            refine norm_ (a' := ?_) ?_ ?_
            rotate_left
            ·
             show Act.put _ (some 20) _ = _
             simp only [Act.put, zA, zB, zC, i64_w, i32_w]
             rfl
            exact norm_ (by first | (simp only [putAll, Act.put, zA, zB, zC]; done) | (simp only [putAll, Act.put, zA, zB, zC]; rfl)) (hJ1_3_5 (.slice (some adz_v311) y310.length co20, adz_v311) _ ⟨(by (with_reducible repeat (first | apply zR | apply zS | apply zT)); exact HO312.out), (by (with_reducible repeat (first | apply zR | apply zS | apply zT)); exact HO_5.out), ⟨_, rfl⟩, (by repeat (first | (with_reducible first | exact HI0.out | apply IsS111.alloc | apply IsS111.drewN | apply IsS111.drew | apply IsS111.set_1) | exact HI0.out)), (by repeat (first | (with_reducible first | exact HK.out | apply KeepBut.set_ | apply keep_drewN | apply keep_drew | apply keep_alloc) | exact HK.out)), (by repeat (first | (with_reducible first | exact HB.out | apply zU | apply zV | apply zW | refine zH ?_ (IsS111.ge HI0.out)) | exact HB.out))⟩)
           ·
            skip
            refine goes_ Try.func70 (by kernel_rfl) rfl #[.pointer (some ⟨g, 0, none⟩), .int .i64 3] (by rfl) rfl rfl (by (try simp only [List.map_toArray, List.map_cons, List.map_nil]); first | done | rfl | (simp only [List.length_drop, List.length_take]; rfl)) ?_
            with_reducible refine (spec_l20Rd_pick.calls k1 g s0_0 t314 3 t316 t317 w0 _ ?side1 ?side2 A11.out).mono ?_
            (case side1 => repeat (first | (with_reducible first | exact HI0.out | apply IsS111.alloc | apply IsS111.drewN | apply IsS111.drew | apply IsS111.set_1) | exact HI0.out))
            (case side2 => repeat (first | (with_reducible first | exact HB.out | apply zU | apply zV | apply zW | refine zH ?_ (IsS111.ge HI0.out)) | exact HB.out))
            rintro e w21 ⟨rfl, hi, hb, hk⟩
            refine ⟨_, rfl, ?_⟩
            have n0_ := zM (Kd.R_mono (Kd.R_keep (IsS111.apart (show IsS111 w0 _ g s0_0 t314 from by repeat (first | (with_reducible first | exact HI0.out | apply IsS111.alloc | apply IsS111.drewN | apply IsS111.drew | apply IsS111.set_1) | exact HI0.out)) (by (with_reducible repeat (first | apply zR | apply zS | apply zT)); exact HO_5.out) (by decide)) hk (fun _ h => h.2)) (fun _ h => h.1))
            have n1_ := zM (Kd.R_mono (Kd.R_keep (IsS111.apart (show IsS111 w0 _ g s0_0 t314 from by repeat (first | (with_reducible first | exact HI0.out | apply IsS111.alloc | apply IsS111.drewN | apply IsS111.drew | apply IsS111.set_1) | exact HI0.out)) (by (with_reducible repeat (first | apply zR | apply zS | apply zT)); exact HO312.out) (by decide)) hk (fun _ h => h.2)) (fun _ h => h.1))
            have n2_ := zM (KeepBut.trans (by repeat (first | (with_reducible first | exact HK.out | apply KeepBut.set_ | apply keep_drewN | apply keep_drew | apply keep_alloc) | exact HK.out)) hk (.inl rfl))
            have n3_ := zM (hb)
            have n4_ := zM (hi)
            clear HO_5
            clear HO312
            clear HK
            clear HB
            clear HI0
            have HO_5 := n0_
            have HO312 := n1_
            have HK := n2_
            have HB := n3_
            have HI0 := n4_
            clear n0_ n1_ n2_ n3_ n4_
            (try clear hb)
            (try clear hb2)
            (try clear hk)
            (try clear hi)
            refine hK.out _ _ trivial (fun hHeld => ?_)
            clear hK K
            refine norm_ (a' := ?_) ?_ ?_
            rotate_left
            ·
             show Act.put _ (some 22) _ = _
             simp only [Act.put, zA, zB, zC, i64_w, i32_w]
             rfl
            refine pure_ (i := 8) (N := some 23) (v := ?_) (a' := ?_) #[tt, tt, tt, tt, tt, ff, tt, tt, tt, ff, ff, ff, ff] rfl rfl (any_of HT_.out (by kernel_rfl)) (fun _ _ _ h => h) (Or.inl ⟨by rfl, ?_⟩) ?_ ?_
            rotate_left
            ·
             intro w'
             go_simp
             with_reducible rfl
            rotate_left
            ·
             simp only [Act.put, zA, zB, zC, i64_w, i32_w]
             rfl
            exact norm_ (by first | (simp only [putAll, Act.put, zA, zB, zC]; done) | (simp only [putAll, Act.put, zA, zB, zC]; rfl)) (hJ1_3_7 (.slice (some adz_v311) y310.length co20, adz_v311) _ ⟨(by (with_reducible repeat (first | apply zR | apply zS | apply zT)); exact HO312.out), (by (with_reducible repeat (first | apply zR | apply zS | apply zT)); exact HO_5.out), ⟨_, rfl⟩, (by repeat (first | (with_reducible first | exact HI0.out | apply IsS111.alloc | apply IsS111.drewN | apply IsS111.drew | apply IsS111.set_1) | exact HI0.out)), (by repeat (first | (with_reducible first | exact HK.out | apply KeepBut.set_ | apply keep_drewN | apply keep_drew | apply keep_alloc) | exact HK.out)), (by repeat (first | (with_reducible first | exact HB.out | apply zU | apply zV | apply zW | refine zH ?_ (IsS111.ge HI0.out)) | exact HB.out))⟩)
         ·
          skip
          rintro ⟨v311, adz_v311⟩ w20 ⟨h0_, h1_, h2_, h3_, h4_, h5_⟩
          have n0_ : Aside0 (Kd.R (Kd.int .i64) 3 w20 w.heap.size (fun _ => True) v311 y310) := ⟨h0_⟩
          have n1_ : Aside0 (Kd.R k113 113 w20 w.heap.size (fun _ => True) (.slice Ao13 x5_1.length co13) x5_1) := ⟨h1_⟩
          have n2_ : Aside0 (∃ c_, (v311 : Value) = .slice (some adz_v311) y310.length c_) := ⟨h2_⟩
          have n3_ : Aside0 (IsS111 w0 w20 g s0_0 t317) := ⟨h3_⟩
          have n4_ : Aside0 (KeepBut w w20 g none) := ⟨h4_⟩
          have n5_ : Aside0 (Below w0.heap.size w0 w20) := ⟨h5_⟩
          clear HO_5
          clear HI0
          clear HK
          clear HB
          clear h0_ h1_ h2_ h3_ h4_ h5_
          have HO312 := n0_
          have HO_5 := n1_
          have HA_HO312 := n2_
          have HI0 := n3_
          have HK := n4_
          have HB := n5_
          clear n0_ n1_ n2_ n3_ n4_ n5_
          have hHeld := trivial
          obtain ⟨co21, eo21⟩ := HA_HO312.out
          clear HA_HO312
          subst eo21
          refine norm_ (a' := ?_) ?_ ?_
          rotate_left
          ·
           simp only [putAll, Act.put, zA, zB, zC]
           rfl
          refine one_ (i := 5) (N := some 20) #[tt, tt, tt, tt, tt, tt, tt, tt, tt, ff, ff, ff, ff] rfl rfl (one_of HT_.out (by kernel_rfl)) (by decide) (fun K hK => ?_)
          (have p315 : 0 ≤ (t313 : Int) := zL (by assumption); have q315 : t313 < (y310.length : Int) := zL (by assumption); obtain ⟨ad315, e315, hx315_0⟩ := Kd.at_int (Kd.R_reads' HO312.out).2.2 t313 p315 q315; obtain rfl : adz_v311 = ad315 := (by injection e315))
          refine value_ (w1 := ?_) (v := ?_) (by rfl) rfl ?_ ?_
          rotate_left 2
          ·
           go_simp
           constructor
           ·
            rfl
           ·
            rfl
          clear hx315_0
          refine hK.out _ _ trivial (fun hHeld => ?_)
          clear hK K
          refine norm_ (a' := ?_) ?_ ?_
          rotate_left
          ·
           show Act.put _ (some 20) _ = _
           simp only [Act.put, zA, zB, zC, i64_w, i32_w]
           rfl
          exact norm_ (by first | (simp only [putAll, Act.put, zA, zB, zC]; done) | (simp only [putAll, Act.put, zA, zB, zC]; rfl)) (hJ1_3_5_7 (.slice (some adz_v311) y310.length co21, adz_v311) _ ⟨(by (with_reducible repeat (first | apply zR | apply zS | apply zT)); exact HO312.out), (by (with_reducible repeat (first | apply zR | apply zS | apply zT)); exact HO_5.out), ⟨_, rfl⟩, (by repeat (first | (with_reducible first | exact HI0.out | apply IsS111.alloc | apply IsS111.drewN | apply IsS111.drew | apply IsS111.set_1) | exact HI0.out)), (by repeat (first | (with_reducible first | exact HK.out | apply KeepBut.set_ | apply keep_drewN | apply keep_drew | apply keep_alloc) | exact HK.out)), (by repeat (first | (with_reducible first | exact HB.out | apply zU | apply zV | apply zW | refine zH ?_ (IsS111.ge HI0.out)) | exact HB.out))⟩)
        ·
         skip
         rintro ⟨v311, adz_v311⟩ w19 ⟨h0_, h1_, h2_, h3_, h4_, h5_⟩
         have n0_ : Aside0 (Kd.R (Kd.int .i64) 3 w19 w.heap.size (fun _ => True) v311 y310) := ⟨h0_⟩
         have n1_ : Aside0 (Kd.R k113 113 w19 w.heap.size (fun _ => True) (.slice Ao13 x5_1.length co13) x5_1) := ⟨h1_⟩
         have n2_ : Aside0 (∃ c_, (v311 : Value) = .slice (some adz_v311) y310.length c_) := ⟨h2_⟩
         have n3_ : Aside0 (IsS111 w0 w19 g s0_0 t314) := ⟨h3_⟩
         have n4_ : Aside0 (KeepBut w w19 g none) := ⟨h4_⟩
         have n5_ : Aside0 (Below w0.heap.size w0 w19) := ⟨h5_⟩
         clear HO_5
         clear HI0
         clear HK
         clear HB
         clear h0_ h1_ h2_ h3_ h4_ h5_
         have HO312 := n0_
         have HO_5 := n1_
         have HA_HO312 := n2_
         have HI0 := n3_
         have HK := n4_
         have HB := n5_
         clear n0_ n1_ n2_ n3_ n4_ n5_
         have hHeld := trivial
         obtain ⟨co20, eo20⟩ := HA_HO312.out
         clear HA_HO312
         subst eo20
         refine norm_ (a' := ?_) ?_ ?_
         rotate_left
         ·
          simp only [putAll, Act.put, zA, zB, zC]
          rfl
         refine one_ (i := 7) (N := some 22) #[tt, tt, tt, tt, tt, tt, tt, tt, ff, ff, ff, ff, ff] rfl rfl (one_of HT_.out (by kernel_rfl)) (by decide) (fun K hK => ?_)
         refine goes_ Try.func70 (by kernel_rfl) rfl #[.pointer (some ⟨g, 0, none⟩), .int .i64 3] (by rfl) rfl rfl (by (try simp only [List.map_toArray, List.map_cons, List.map_nil]); first | done | rfl | (simp only [List.length_drop, List.length_take]; rfl)) ?_
         with_reducible refine (spec_l20Rd_pick.calls k1 g s0_0 t314 3 t316 t317 w0 _ ?side1 ?side2 A11.out).mono ?_
         (case side1 => repeat (first | (with_reducible first | exact HI0.out | apply IsS111.alloc | apply IsS111.drewN | apply IsS111.drew | apply IsS111.set_1) | exact HI0.out))
         (case side2 => repeat (first | (with_reducible first | exact HB.out | apply zU | apply zV | apply zW | refine zH ?_ (IsS111.ge HI0.out)) | exact HB.out))
         rintro e w21 ⟨rfl, hi, hb, hk⟩
         refine ⟨_, rfl, ?_⟩
         have n0_ := zM (Kd.R_mono (Kd.R_keep (IsS111.apart (show IsS111 w0 _ g s0_0 t314 from by repeat (first | (with_reducible first | exact HI0.out | apply IsS111.alloc | apply IsS111.drewN | apply IsS111.drew | apply IsS111.set_1) | exact HI0.out)) (by (with_reducible repeat (first | apply zR | apply zS | apply zT)); exact HO_5.out) (by decide)) hk (fun _ h => h.2)) (fun _ h => h.1))
         have n1_ := zM (Kd.R_mono (Kd.R_keep (IsS111.apart (show IsS111 w0 _ g s0_0 t314 from by repeat (first | (with_reducible first | exact HI0.out | apply IsS111.alloc | apply IsS111.drewN | apply IsS111.drew | apply IsS111.set_1) | exact HI0.out)) (by (with_reducible repeat (first | apply zR | apply zS | apply zT)); exact HO312.out) (by decide)) hk (fun _ h => h.2)) (fun _ h => h.1))
         have n2_ := zM (KeepBut.trans (by repeat (first | (with_reducible first | exact HK.out | apply KeepBut.set_ | apply keep_drewN | apply keep_drew | apply keep_alloc) | exact HK.out)) hk (.inl rfl))
         have n3_ := zM (hb)
         have n4_ := zM (hi)
         clear HO_5
         clear HO312
         clear HK
         clear HB
         clear HI0
         have HO_5 := n0_
         have HO312 := n1_
         have HK := n2_
         have HB := n3_
         have HI0 := n4_
         clear n0_ n1_ n2_ n3_ n4_
         (try clear hb)
         (try clear hb2)
         (try clear hk)
         (try clear hi)
         refine hK.out _ _ trivial (fun hHeld => ?_)
         clear hK K
         refine norm_ (a' := ?_) ?_ ?_
         rotate_left
         ·
          show Act.put _ (some 22) _ = _
          simp only [Act.put, zA, zB, zC, i64_w, i32_w]
          rfl
         refine pure_ (i := 8) (N := some 23) (v := ?_) (a' := ?_) #[tt, tt, tt, tt, tt, tt, tt, tt, tt, ff, ff, ff, ff] rfl rfl (any_of HT_.out (by kernel_rfl)) (fun _ _ _ h => h) (Or.inl ⟨by rfl, ?_⟩) ?_ ?_
         rotate_left
         ·
          intro w'
          go_simp
          with_reducible rfl
         rotate_left
         ·
          simp only [Act.put, zA, zB, zC, i64_w, i32_w]
          rfl
         exact norm_ (by first | (simp only [putAll, Act.put, zA, zB, zC]; done) | (simp only [putAll, Act.put, zA, zB, zC]; rfl)) (hJ1_3_5_7 (.slice (some adz_v311) y310.length co20, adz_v311) _ ⟨(by (with_reducible repeat (first | apply zR | apply zS | apply zT)); exact HO312.out), (by (with_reducible repeat (first | apply zR | apply zS | apply zT)); exact HO_5.out), ⟨_, rfl⟩, (by repeat (first | (with_reducible first | exact HI0.out | apply IsS111.alloc | apply IsS111.drewN | apply IsS111.drew | apply IsS111.set_1) | exact HI0.out)), (by repeat (first | (with_reducible first | exact HK.out | apply KeepBut.set_ | apply keep_drewN | apply keep_drew | apply keep_alloc) | exact HK.out)), (by repeat (first | (with_reducible first | exact HB.out | apply zU | apply zV | apply zW | refine zH ?_ (IsS111.ge HI0.out)) | exact HB.out))⟩)
       rintro ⟨v311, adz_v311⟩ w20 ⟨h0_, h1_, h2_, h3_, h4_, h5_⟩
       have n0_ : Aside0 (Kd.R (Kd.int .i64) 3 w20 w.heap.size (fun _ => True) v311 y310) := ⟨h0_⟩
       have n1_ : Aside0 (Kd.R k113 113 w20 w.heap.size (fun _ => True) (.slice Ao13 x5_1.length co13) x5_1) := ⟨h1_⟩
       have n2_ : Aside0 (∃ c_, (v311 : Value) = .slice (some adz_v311) y310.length c_) := ⟨h2_⟩
       have n3_ : Aside0 (IsS111 w0 w20 g s0_0 t317) := ⟨h3_⟩
       have n4_ : Aside0 (KeepBut w w20 g none) := ⟨h4_⟩
       have n5_ : Aside0 (Below w0.heap.size w0 w20) := ⟨h5_⟩
       clear HO_5
       clear HI0
       clear HK
       clear HB
       clear h0_ h1_ h2_ h3_ h4_ h5_
       have HO312 := n0_
       have HO_5 := n1_
       have HA_HO312 := n2_
       have HI0 := n3_
       have HK := n4_
       have HB := n5_
       clear n0_ n1_ n2_ n3_ n4_ n5_
       have hHeld := trivial
       obtain ⟨co21, eo21⟩ := HA_HO312.out
       clear HA_HO312
       subst eo21
       refine norm_ (a' := ?_) ?_ ?_
       rotate_left
       ·
        simp only [putAll, Act.put, zA, zB, zC]
        rfl
       refine pure_ (i := 9) (N := some 24) (v := ?_) (a' := ?_) #[tt, tt, tt, tt, tt, tt, tt, tt, tt, tt, ff, ff, ff] rfl rfl (any_of HT_.out (by kernel_rfl)) (fun _ _ _ h => h) (Or.inl ⟨by rfl, ?_⟩) ?_ ?_
       rotate_left
       ·
        intro w'
        go_simp
        with_reducible rfl
       rotate_left
       ·
        simp only [Act.put, zA, zB, zC, i64_w, i32_w]
        rfl
       refine one_ (i := 10) (N := some 25) #[tt, tt, tt, tt, tt, tt, tt, tt, tt, tt, tt, ff, ff] rfl rfl (one_of HT_.out (by kernel_rfl)) (by decide) (fun K hK => ?_)
       refine value_ (w1 := ?_) (v := ?_) (by rfl) rfl ?_ ?_
       rotate_left 2
       ·
        go_simp
        constructor
        ·
         rfl
        ·
         rfl
       refine hK.out _ _ trivial (fun hHeld => ?_)
       clear hK K
       refine norm_ (a' := ?_) ?_ ?_
       rotate_left
       ·
        show Act.put _ (some 25) _ = _
        simp only [Act.put, zA, zB, zC, i64_w, i32_w]
        rfl
       refine one_ (i := 11) (N := some 26) #[tt, tt, tt, tt, tt, tt, tt, tt, tt, tt, tt, tt, ff] rfl rfl (one_of HT_.out (by kernel_rfl)) (by decide) (fun K hK => ?_)
       refine Kd.R_append_step k113 w.heap.size (by rfl) (.tmp 15) (.tmp 25) 77 113 (.agg #[(.int .i64 0), (.bool false)]) 16 rfl Try.underlying77 info113 rfl (by decide) (by omega) (.slice Ao13 x5_1.length co13) x5_1 (⟨rd y310 t313, decide (t316 > 0)⟩ : S113) [.int .i64 (rd y310 t313), .bool (decide (t316 > 0))] (fun _ => True) (fun _ => False) rfl rfl ?aP (fun _ hk => hk.elim) ?aF ?aO (Below.refl _ _) ?aS ?aL ?_
       (case aP => exact k113_mkM _ _ _ (⟨rd y310 t313, decide (t316 > 0)⟩ : S113))
       (case aF => exact (fun _ _ => trivial))
       (case aO => exact (by (with_reducible repeat (first | apply zR | apply zS | apply zT)); exact HO_5.out))
       (case aS => exact (keep_size (w := w) (g := g) (row := none) (by repeat (first | (with_reducible first | exact HK.out | apply KeepBut.set_ | apply keep_drewN | apply keep_drew | apply keep_alloc) | exact HK.out))))
       (case aL => have := LMc12.out; omega)
       intro v319 w22 ho hb hg hat
       rw [← Ny318.out] at ho
       have n0_ := zM (IsS111.grown (by repeat (first | (with_reducible first | exact HI0.out | apply IsS111.alloc | apply IsS111.drewN | apply IsS111.drew | apply IsS111.set_1) | exact HI0.out)) hg (IsS111.own_ne HI0.out HO_5.out (by decide)))
       have n1_ := zM (Kd.R_over' (by (with_reducible repeat (first | apply zR | apply zS | apply zT)); exact HO312.out) (Kd.R_typed (by (with_reducible repeat (first | apply zR | apply zS | apply zT)); exact HO_5.out)) (by decide) hg)
       have n2_ := zM (below_weaken (by repeat (first | (with_reducible first | exact HB.out | apply zU | apply zV | apply zW | refine zH ?_ (IsS111.ge HI0.out)) | exact HB.out)) HL.out hb)
       have n3_ := zM (KeepBut.trans (by repeat (first | (with_reducible first | exact HK.out | apply KeepBut.set_ | apply keep_drewN | apply keep_drew | apply keep_alloc) | exact HK.out)) (KeepBut.of_grown hg g) (Kd.R_base2 HO_5.out))
       have n4_ := zM (ho)
       clear HI0
       clear HO312
       clear HB
       clear HK
       clear HO_5
       have HI0 := n0_
       have HO312 := n1_
       have HB := n2_
       have HK := n3_
       have HO320 := n4_
       clear n0_ n1_ n2_ n3_ n4_
       clear ho hb hg hat
       refine hK.out _ _ trivial (fun hHeld => ?_)
       clear hK K
       refine norm_ (a' := ?_) ?_ ?_
       rotate_left
       ·
        show Act.put _ (some 26) _ = _
        simp only [Act.put, zA, zB, zC, i64_w, i32_w]
        rfl
       refine pure_ (i := 12) (N := some 5) (v := ?_) (a' := ?_) #[tt, tt, tt, tt, tt, tt, tt, tt, tt, tt, tt, tt, tt] rfl rfl (any_of HT_.out (by kernel_rfl)) (fun _ _ _ h => h) (Or.inl ⟨by rfl, ?_⟩) ?_ ?_
       rotate_left
       ·
        intro w'
        go_simp
        with_reducible rfl
       rotate_left
       ·
        simp only [Act.put, zA, zB, zC, i64_w, i32_w]
        rfl
       refine done_ (done_of HT_.out (by kernel_rfl)) ?_
       try go_wp2
       go_roundg k1
       case measure => have := HK1.out; omega
       case rel => exact ⟨(y318), (wrap64 (x6_1 - 1)), (t317), (by first | rfl | (simp; done) | (simp [*]; done)), H', ⟨by have := HK1.out; omega⟩, ⟨by (with_reducible repeat (first | apply zR | apply zS | apply zT)); exact HO320.out⟩, ⟨by repeat (first | (with_reducible first | exact HI0.out | apply IsS111.alloc | apply IsS111.drewN | apply IsS111.drew | apply IsS111.set_1) | exact HI0.out)⟩, ⟨by repeat (first | (with_reducible first | exact HK.out | apply KeepBut.set_ | apply keep_drewN | apply keep_drew | apply keep_alloc) | exact HK.out)⟩, ⟨by repeat (first | (with_reducible first | exact HB.out | apply zU | apply zV | apply zW | refine zH ?_ (IsS111.ge HI0.out)) | exact HB.out)⟩⟩
      ·
       rw [if_neg c12] at H
       exact absurd H (by simp)
     ·
      rw [if_neg c10] at H
      exact absurd H (by simp)
    ·
     rw [if_neg c9] at H
     exact absurd H (by simp)
   ·
    rw [if_neg c7] at H
    have c7b0 : decide (0 < x6_1) = false := decide_eq_false c7
    clear c7
    replace H := Option.bind_eq_some_iff.mp H
    obtain ⟨⟨t321, t322⟩, A230, H⟩ := H
    replace H : (if t321 = true then ((spec_l20Rd_pick.f k1 s0_0 t322 6).bind fun bt323 => ((some (([(⟨wrap64 (bt323.1 - 1), false⟩ : S113), (⟨1, false⟩ : S113), (⟨1, false⟩ : S113)] : List (S113)) : List (S113))).bind fun y325 => (if x5_1.length + y325.length < 8796093022208 then (some ((x5_1 ++ y325), bt323.2)) else (none)))) else (some (x5_1, t322))) = some (r1, r2) := H
    have A23 := zM A230
    clear A230
    by_cases c24 : t321 = true
    ·
     subst c24
     have H1 : ((spec_l20Rd_pick.f k1 s0_0 t322 6).bind fun bt323 => ((some (([(⟨wrap64 (bt323.1 - 1), false⟩ : S113), (⟨1, false⟩ : S113), (⟨1, false⟩ : S113)] : List (S113)) : List (S113))).bind fun y325 => (if x5_1.length + y325.length < 8796093022208 then (some ((x5_1 ++ y325), bt323.2)) else (none)))) = some (r1, r2) := by rw [if_pos rfl] at H; exact H
     clear H
     have H := H1
     clear H1
     replace H := Option.bind_eq_some_iff.mp H
     obtain ⟨⟨t323, t324⟩, A250, H⟩ := H
     replace H : ((some (([(⟨wrap64 (t323 - 1), false⟩ : S113), (⟨1, false⟩ : S113), (⟨1, false⟩ : S113)] : List (S113)) : List (S113))).bind fun y325 => (if x5_1.length + y325.length < 8796093022208 then (some ((x5_1 ++ y325), t324)) else (none))) = some (r1, r2) := H
     have A25 := zM A250
     clear A250
     obtain ⟨y325, hy325⟩ : ∃ y_ : List (S113), y_ = (([(⟨wrap64 (t323 - 1), false⟩ : S113), (⟨1, false⟩ : S113), (⟨1, false⟩ : S113)] : List (S113))) := ⟨_, rfl⟩
     replace H : (if x5_1.length + y325.length < 8796093022208 then (some ((x5_1 ++ y325), t324)) else (none)) = some (r1, r2) := by first | (rw [hy325]; with_reducible exact H) | (have H2_ := (Option.bind_some _ _).symm.trans H; rw [hy325]; with_reducible exact H2_) | (have H2_ := (Option.bind_some _ _).symm.trans H; with_reducible exact H2_) | with_reducible exact H | (rw [hy325]; exact H) | exact H
     have Ny325 := zM hy325
     clear hy325
     by_cases c26 : x5_1.length + y325.length < 8796093022208
     ·
      rw [if_pos c26] at H
      have LMc26 := zM c26
      clear c26
      obtain ⟨y328, hy328⟩ : ∃ y_ : List (S113), y_ = (x5_1 ++ y325) := ⟨_, rfl⟩
      replace H : (some (y328, t324)) = some (r1, r2) := by first | (rw [hy328]; with_reducible exact H) | (have H2_ := (Option.bind_some _ _).symm.trans H; rw [hy328]; with_reducible exact H2_) | (have H2_ := (Option.bind_some _ _).symm.trans H; with_reducible exact H2_) | with_reducible exact H | (rw [hy328]; exact H) | exact H
      have Ny328 := zM hy328
      clear hy328
      simp only [Option.some.injEq, Prod.mk.injEq] at H
      obtain ⟨rfl, rfl⟩ := H
      go_wp2_with (first | ((with_reducible refine gate_callee (f := 90) rfl ?_); refine goesL_ (some 29) rfl rfl Try.func90 (by kernel_rfl) rfl #[.pointer (some ⟨g, 0, none⟩), .int .i64 a1] rfl (by (try simp only [List.map_toArray, List.map_cons, List.map_nil]); first | done | rfl | (simp only [List.length_drop, List.length_take]; rfl)) ?_; (with_reducible refine (spec_l20Rd_odd.calls k1 g s0_0 x1001_1 a1 true t322 w0 _ ?side1 ?side2 A23.out).mono ?_); (case side1 => repeat (first | (with_reducible first | exact HI0.out | apply IsS111.alloc | apply IsS111.drewN | apply IsS111.drew | apply IsS111.set_1) | exact HI0.out)); (case side2 => repeat (first | (with_reducible first | exact HB.out | apply zU | apply zV | apply zW | refine zH ?_ (IsS111.ge HI0.out)) | exact HB.out)); rintro e w27 ⟨rfl, hi, hb, hk⟩; refine ⟨_, rfl, ?_⟩; have n0_ := zM (Kd.R_mono (Kd.R_keep (IsS111.apart (show IsS111 w0 _ g s0_0 x1001_1 from by repeat (first | (with_reducible first | exact HI0.out | apply IsS111.alloc | apply IsS111.drewN | apply IsS111.drew | apply IsS111.set_1) | exact HI0.out)) (by (with_reducible repeat (first | apply zR | apply zS | apply zT)); exact HO_5.out) (by decide)) hk (fun _ h => h.2)) (fun _ h => h.1)); have n1_ := zM (KeepBut.trans (by repeat (first | (with_reducible first | exact HK.out | apply KeepBut.set_ | apply keep_drewN | apply keep_drew | apply keep_alloc) | exact HK.out)) hk (.inl rfl)); have n2_ := zM (hb); have n3_ := zM (hi); clear HO_5; clear HK; clear HB; clear HI0; have HO_5 := n0_; have HK := n1_; have HB := n2_; have HI0 := n3_; clear n0_ n1_ n2_ n3_; (try clear hb); (try clear hb2); (try clear hk); (try clear hi)) | ((with_reducible refine gate_callee (f := 70) rfl ?_); refine goesL_ (some 32) rfl rfl Try.func70 (by kernel_rfl) rfl #[.pointer (some ⟨g, 0, none⟩), .int .i64 6] rfl (by (try simp only [List.map_toArray, List.map_cons, List.map_nil]); first | done | rfl | (simp only [List.length_drop, List.length_take]; rfl)) ?_; (with_reducible refine (spec_l20Rd_pick.calls k1 g s0_0 t322 6 t323 t324 w0 _ ?side1 ?side2 A25.out).mono ?_); (case side1 => repeat (first | (with_reducible first | exact HI0.out | apply IsS111.alloc | apply IsS111.drewN | apply IsS111.drew | apply IsS111.set_1) | exact HI0.out)); (case side2 => repeat (first | (with_reducible first | exact HB.out | apply zU | apply zV | apply zW | refine zH ?_ (IsS111.ge HI0.out)) | exact HB.out)); rintro e w28 ⟨rfl, hi, hb, hk⟩; refine ⟨_, rfl, ?_⟩; have n0_ := zM (Kd.R_mono (Kd.R_keep (IsS111.apart (show IsS111 w0 _ g s0_0 t322 from by repeat (first | (with_reducible first | exact HI0.out | apply IsS111.alloc | apply IsS111.drewN | apply IsS111.drew | apply IsS111.set_1) | exact HI0.out)) (by (with_reducible repeat (first | apply zR | apply zS | apply zT)); exact HO_5.out) (by decide)) hk (fun _ h => h.2)) (fun _ h => h.1)); have n1_ := zM (KeepBut.trans (by repeat (first | (with_reducible first | exact HK.out | apply KeepBut.set_ | apply keep_drewN | apply keep_drew | apply keep_alloc) | exact HK.out)) hk (.inl rfl)); have n2_ := zM (hb); have n3_ := zM (hi); clear HO_5; clear HK; clear HB; clear HI0; have HO_5 := n0_; have HK := n1_; have HB := n2_; have HI0 := n3_; clear n0_ n1_ n2_ n3_; (try clear hb); (try clear hb2); (try clear hk); (try clear hi)) | ((with_reducible refine gate_dst (N := 37) rfl ?_); refine Kd.R_lit k113 _ 113 ?hg (N := 37) ?hd (xs := ([(⟨wrap64 (t323 - 1), false⟩ : S113), (⟨1, false⟩ : S113), (⟨1, false⟩ : S113)] : List (S113))) (inner := [.int .i64 (wrap64 (t323 - 1)), .bool false, .int .i64 1, .bool false, .int .i64 1, .bool false]) (ok := fun _ => True) (okp := fun _ => True) ?hr ?hp (fun _ hk => hk) trivial (Below.refl _ _) (Nat.le_refl _) (by simp) ?_; (case hd => rfl); (case hg => rfl); (case hr => first | (go_simp; done) | (go_simp; rfl)); (case hp => exact (Reps.c2 (show Kd.M k113 _ _ _ (⟨wrap64 (t323 - 1), false⟩ : S113) [.int .i64 (wrap64 (t323 - 1)), .bool false] from (k113_mkM _ _ _ (⟨wrap64 (t323 - 1), false⟩ : S113) )) (Reps.c2 (show Kd.M k113 _ _ _ (⟨1, false⟩ : S113) [.int .i64 1, .bool false] from (k113_mkM _ _ _ (⟨1, false⟩ : S113) )) (Reps.c2 (show Kd.M k113 _ _ _ (⟨1, false⟩ : S113) [.int .i64 1, .bool false] from (k113_mkM _ _ _ (⟨1, false⟩ : S113) )) (Reps.none _ _))))); intro v326 w29 ho30 hb hg_ hnew_; clear hg_ hnew_; (first | rw [← Ny325.out] at ho30 | (simp only [Int.reduceToNat] at ho30; rw [← Ny325.out] at ho30)); have n0_ := zM (Kd.R_elder' (by (with_reducible repeat (first | apply zR | apply zS | apply zT)); exact HO_5.out) (Kd.R_base ho30) hb); have n1_ := zM (Kd.R_lower (Kd.R_new' ho30 (Kd.R_lt (by (with_reducible repeat (first | apply zR | apply zS | apply zT)); exact HO_5.out))) (keep_size (w := w) (g := g) (row := none) (by repeat (first | (with_reducible first | exact HK.out | apply KeepBut.set_ | apply keep_drewN | apply keep_drew | apply keep_alloc) | exact HK.out)))); have n2_ := zM (IsS111.below (by repeat (first | (with_reducible first | exact HI0.out | apply IsS111.alloc | apply IsS111.drewN | apply IsS111.drew | apply IsS111.set_1) | exact HI0.out)) hb); have n3_ := zM (KeepBut.trans (by repeat (first | (with_reducible first | exact HK.out | apply KeepBut.set_ | apply keep_drewN | apply keep_drew | apply keep_alloc) | exact HK.out)) (KeepBut.of_below hb g none) (.inl rfl)); have n4_ := zM (zG (by repeat (first | (with_reducible first | exact HB.out | apply zU | apply zV | apply zW | refine zH ?_ (IsS111.ge HI0.out)) | exact HB.out)) hb); clear HO_5; clear HI0; clear HK; clear HB; have HO_5 := n0_; have HO327 := n1_; have HI0 := n2_; have HK := n3_; have HB := n4_; clear n0_ n1_ n2_ n3_ n4_; clear hb ho30; obtain ⟨Ao32, co32, eo32⟩ := Kd.R_slice HO327.out; subst eo32) | ((with_reducible refine gate_builtin (b := .append) (xs := #[.tmp 30, .tmp 37]) rfl ?_); at_builtin; refine Kd.R_append_rows k113 w.heap.size rfl (.tmp 30) (.tmp 37) 77 113 (.agg #[(.int .i64 0), (.bool false)]) 16 rfl Try.underlying77 info113 rfl (by decide) (by omega) u5 x5_1 y325 _ _ _ (fun k_ => some k_ ≠ (.slice Ao32 y325.length co32 : Value).ownBlock) (fun _ => False) rfl rfl ?aO ?aR (fun _ _ h => h) (fun _ h => h.elim) ?aF (Below.refl _ _) ?aS ?aL ?_; (case aR => repeat (first | exact (Kd.R_reads' HO327.out).2.2 | (with_reducible refine zQ ?_ _) | (with_reducible refine zO ?_ _) | (with_reducible refine zP ?_))); (case aF => exact (fun k_ hk => Kd.fresh' (Kd.R_lt (by (with_reducible repeat (first | apply zR | apply zS | apply zT)); exact HO327.out)) k_ hk)); (case aO => exact (by (with_reducible repeat (first | apply zR | apply zS | apply zT)); exact Kd.R_mono HO_5.out (fun _ hk => hk.2))); (case aS => exact (keep_size (w := w) (g := g) (row := none) (by repeat (first | (with_reducible first | exact HK.out | apply KeepBut.set_ | apply keep_drewN | apply keep_drew | apply keep_alloc) | exact HK.out)))); (case aL => have := LMc26.out; omega); intro v329 w31 ho hb hg hat; rw [← Ny328.out] at ho; have n0_ := zM (IsS111.grown (by repeat (first | (with_reducible first | exact HI0.out | apply IsS111.alloc | apply IsS111.drewN | apply IsS111.drew | apply IsS111.set_1) | exact HI0.out)) hg (IsS111.own_ne HI0.out HO_5.out (by decide))); have n1_ := zM (Kd.R_after (ok := (fun _ => True)) (by (with_reducible repeat (first | apply zR | apply zS | apply zT)); exact HO327.out) hg hat); have n2_ := zM (below_weaken (by repeat (first | (with_reducible first | exact HB.out | apply zU | apply zV | apply zW | refine zH ?_ (IsS111.ge HI0.out)) | exact HB.out)) HL.out hb); have n3_ := zM (KeepBut.trans (by repeat (first | (with_reducible first | exact HK.out | apply KeepBut.set_ | apply keep_drewN | apply keep_drew | apply keep_alloc) | exact HK.out)) (KeepBut.of_grown hg g) (Kd.R_base2 HO_5.out)); have n4_ := zM (ho); clear HI0; clear HO327; clear HB; clear HK; clear HO_5; have HI0 := n0_; have HO327 := n1_; have HB := n2_; have HK := n3_; have HO330 := n4_; clear n0_ n1_ n2_ n3_ n4_; clear ho hb hg hat))
      go_ret
      exact ⟨_, by first | rfl | (simp [errW_none, errW_some] <;> rfl) | (simp [*, errW_none, errW_some] <;> rfl), by (with_reducible repeat (first | apply zR | apply zS | apply zT)); exact Kd.R_mono HO330.out (fun _ hk => trivial), by repeat (first | (with_reducible first | exact HI0.out | apply IsS111.alloc | apply IsS111.drewN | apply IsS111.drew | apply IsS111.set_1) | exact HI0.out), by repeat (first | (with_reducible first | exact HB.out | apply zU | apply zV | apply zW | refine zH ?_ (IsS111.ge HI0.out)) | exact HB.out), by repeat (first | (with_reducible first | exact HK.out | apply KeepBut.set_ | apply keep_drewN | apply keep_drew | apply keep_alloc) | exact HK.out)⟩
     ·
      rw [if_neg c26] at H
      exact absurd H (by simp)
    ·
     replace c24 := Bool.eq_false_iff.mpr c24
     subst c24
     have H1 : (some (x5_1, t322)) = some (r1, r2) := by rw [if_neg (show ¬ (false = true) by decide)] at H; exact H
     clear H
     have H := H1
     clear H1
     simp only [Option.some.injEq, Prod.mk.injEq] at H
     obtain ⟨rfl, rfl⟩ := H
     go_wp2_with (first | ((with_reducible refine gate_callee (f := 90) rfl ?_); refine goesL_ (some 29) rfl rfl Try.func90 (by kernel_rfl) rfl #[.pointer (some ⟨g, 0, none⟩), .int .i64 a1] rfl (by (try simp only [List.map_toArray, List.map_cons, List.map_nil]); first | done | rfl | (simp only [List.length_drop, List.length_take]; rfl)) ?_; (with_reducible refine (spec_l20Rd_odd.calls k1 g s0_0 x1001_1 a1 false t322 w0 _ ?side1 ?side2 A23.out).mono ?_); (case side1 => repeat (first | (with_reducible first | exact HI0.out | apply IsS111.alloc | apply IsS111.drewN | apply IsS111.drew | apply IsS111.set_1) | exact HI0.out)); (case side2 => repeat (first | (with_reducible first | exact HB.out | apply zU | apply zV | apply zW | refine zH ?_ (IsS111.ge HI0.out)) | exact HB.out)); rintro e w33 ⟨rfl, hi, hb, hk⟩; refine ⟨_, rfl, ?_⟩; have n0_ := zM (Kd.R_mono (Kd.R_keep (IsS111.apart (show IsS111 w0 _ g s0_0 x1001_1 from by repeat (first | (with_reducible first | exact HI0.out | apply IsS111.alloc | apply IsS111.drewN | apply IsS111.drew | apply IsS111.set_1) | exact HI0.out)) (by (with_reducible repeat (first | apply zR | apply zS | apply zT)); exact HO_5.out) (by decide)) hk (fun _ h => h.2)) (fun _ h => h.1)); have n1_ := zM (KeepBut.trans (by repeat (first | (with_reducible first | exact HK.out | apply KeepBut.set_ | apply keep_drewN | apply keep_drew | apply keep_alloc) | exact HK.out)) hk (.inl rfl)); have n2_ := zM (hb); have n3_ := zM (hi); clear HO_5; clear HK; clear HB; clear HI0; have HO_5 := n0_; have HK := n1_; have HB := n2_; have HI0 := n3_; clear n0_ n1_ n2_ n3_; (try clear hb); (try clear hb2); (try clear hk); (try clear hi)))
     go_ret
     exact ⟨_, by first | rfl | (simp [errW_none, errW_some] <;> rfl) | (simp [*, errW_none, errW_some] <;> rfl), by (with_reducible repeat (first | apply zR | apply zS | apply zT)); exact HO_5.out, by repeat (first | (with_reducible first | exact HI0.out | apply IsS111.alloc | apply IsS111.drewN | apply IsS111.drew | apply IsS111.set_1) | exact HI0.out), by repeat (first | (with_reducible first | exact HB.out | apply zU | apply zV | apply zW | refine zH ?_ (IsS111.ge HI0.out)) | exact HB.out), by repeat (first | (with_reducible first | exact HK.out | apply KeepBut.set_ | apply keep_drewN | apply keep_drew | apply keep_alloc) | exact HK.out)⟩
end

end Go.Proofs.Ytalhkihppcjanaa.X
