/- Plain functions for the Go functions of this seat, and proofs that each call answers as its plain function does; made by this session's program over the kit's printer. -/
import Derived.Test.YtalhkihppcjanaaX0
import Derived.Test.YtalhkihppcjanaaZFnWholeShares1
namespace Go.Proofs.Ytalhkihppcjanaa.X
open Go.RowKit Go.Proofs.YtalhkihppcjanaaV.PrintWords Go.Proofs.YtalhkihppcjanaaV.PrintLast Go.Proofs.YtalhkihppcjanaaV.PrintMore
attribute [local go_sem] max2_int min2_int max_two min_two max_three min_three max_four min_four   -- for this text's walks alone
set_option linter.unusedVariables false
set_option linter.unusedSimpArgs false

section
/-! ### spec_DrawAsks: function 29 -/
def spec_DrawAsks.l0 : Nat → List (S61) → Int → List Int → Int → Option ((List (S61)))
  | 0, _, _, _, _ => none
  | k + 1, x4, x5, x596000, x596001 => if x5 > 0 then ((spec_l20Rd_pick.f k x596000 x596001 4).bind fun bt601 => ((spec_l20Rd_pick.f k x596000 bt601.2 5).bind fun bt603 => (if x4.length < 5864062014805 then (spec_DrawAsks.l0 k (x4 ++ [(⟨bt601.1, bt603.1, 1⟩ : S61)]) (wrap64 (x5 - 1)) x596000 bt603.2) else (none)))) else (some x4)
def spec_DrawAsks.f (k : Nat) (l0 : List Int) : Option ((List (S61))) := (spec_l20Open.f l0).bind fun bt593 => ((spec_l20Rd_pick.f k bt593.1 bt593.2 10).bind fun bt599 => (spec_DrawAsks.l0 k (([] : List (S61))) bt599.1 bt593.1 bt599.2))
theorem spec_DrawAsks.mono_l : ∀ k, (∀ y0 y1 y2 y3, LeO (spec_DrawAsks.l0 k y0 y1 y2 y3) (spec_DrawAsks.l0 (k + 1) y0 y1 y2 y3))
  | 0 => fun _ _ _ _ r h => by simp [spec_DrawAsks.l0] at h
  | k + 1 => by
    have ih0 := spec_DrawAsks.mono_l k
    · intro y0 y1 y2 y3
      unfold spec_DrawAsks.l0
      repeat' first
      | (with_reducible exact ih0 _ _ _ _)
      | (with_reducible exact spec_l20Rd_pick.mono _ _ _ _)
      | (with_reducible exact LeO.refl _)
      | (with_reducible exact LeO.none _)
      | (with_reducible refine LeO.ite ?_ ?_)
      | (with_reducible refine LeO.bind ?_ (fun _ => ?_))
      | exact ih0 _ _ _ _
      | exact spec_l20Rd_pick.mono _ _ _ _
      | exact LeO.none _
      | refine LeO.ite ?_ ?_
      | refine LeO.bind ?_ (fun _ => ?_)
theorem spec_DrawAsks.mono : ∀ a0 k, LeO (spec_DrawAsks.f k a0) (spec_DrawAsks.f (k + 1) a0) := by
  intro a0 k
  have ih0 := spec_DrawAsks.mono_l k
  unfold spec_DrawAsks.f
  repeat' first
      | (with_reducible exact ih0 _ _ _ _)
      | (with_reducible exact spec_l20Rd_pick.mono _ _ _ _)
      | (with_reducible exact LeO.refl _)
      | (with_reducible exact LeO.none _)
      | (with_reducible refine LeO.ite ?_ ?_)
      | (with_reducible refine LeO.bind ?_ (fun _ => ?_))
      | exact ih0 _ _ _ _
      | exact spec_l20Rd_pick.mono _ _ _ _
      | exact LeO.none _
      | refine LeO.ite ?_ ?_
      | refine LeO.bind ?_ (fun _ => ?_)
set_option maxHeartbeats 8000000 in
set_option maxRecDepth 100000 in
theorem spec_DrawAsks.calls (k : Nat) (A0 : Option Addr) (c0 : Nat) (l0 : List Int) (r : List (S61)) (w : World) (hr0 : Kd.C (Kd.int .u8) w A0 l0.length l0) (hc0 : l0.length ≤ c0) (h : spec_DrawAsks.f k l0 = some r) :
    Calls Try.prog 29 #[.slice A0 l0.length c0] w fun e w' => ∃ v0_ : Value, e = .returned (v0_) ∧ Kd.R k61 61 w' w.heap.size (fun _ => True) v0_ r ∧ Below w.heap.size w w' := by
  have hu61 := Try.underlying61
  have HR0 := Aside0.mk hr0
  have HC0 := Aside0.mk hc0
  clear hr0 hc0
  have HB := Aside0.mk (Below.refl w.heap.size w)
  have H : ((spec_l20Open.f l0).bind fun bt593 => ((spec_l20Rd_pick.f k bt593.1 bt593.2 10).bind fun bt599 => (spec_DrawAsks.l0 k (([] : List (S61))) bt599.1 bt593.1 bt599.2))) = some r := h
  clear h
  replace H := Option.bind_eq_some_iff.mp H
  obtain ⟨⟨t593, t594⟩, A20, H⟩ := H
  replace H : ((spec_l20Rd_pick.f k t593 t594 10).bind fun bt599 => (spec_DrawAsks.l0 k (([] : List (S61))) bt599.1 t593 bt599.2)) = some r := H
  have A2 := Aside0.mk A20
  clear A20
  obtain ⟨y596, hy596⟩ : ∃ y_ : List (S61), y_ = (([] : List (S61))) := ⟨_, rfl⟩
  replace H : ((spec_l20Rd_pick.f k t593 t594 10).bind fun bt599 => (spec_DrawAsks.l0 k y596 bt599.1 t593 bt599.2)) = some r := by first | (rw [hy596]; with_reducible exact H) | (have H2_ := (Option.bind_some _ _).symm.trans H; rw [hy596]; with_reducible exact H2_) | (have H2_ := (Option.bind_some _ _).symm.trans H; with_reducible exact H2_) | with_reducible exact H | (rw [hy596]; exact H) | exact H
  have Ny596 := Aside0.mk hy596
  clear hy596
  replace H := Option.bind_eq_some_iff.mp H
  obtain ⟨⟨t599, t600⟩, A30, H⟩ := H
  replace H : (spec_DrawAsks.l0 k y596 t599 t593 t600) = some r := H
  have A3 := Aside0.mk A30
  clear A30
  have H' := Aside0.mk H
  clear H
  go_enter Try.func29, Try.ntmps29
  go_wp2_with (first | ((with_reducible refine gate_callee (f := 46) rfl ?_); refine goesL_ (some 7) rfl rfl Try.func46 (by kernel_rfl) rfl #[.slice A0 l0.length c0] rfl (by (try simp only [List.map_toArray, List.map_cons, List.map_nil]); first | done | rfl | (simp only [List.length_drop, List.length_take]; rfl)) ?_; (with_reducible refine (spec_l20Open.calls _ _ l0 t593 t594 w _ ?side1 ?side2 ?side3 A2.out).mono ?_); (case side1 => repeat (first | (with_reducible first | exact HB.out | apply below_alloc | apply pw_below_drewN | apply below_drew1) | exact HB.out)); (case side2 => exact HR0.out); (case side3 => exact HC0.out); rintro e w4 ⟨g595, rfl, hi, hb, hb2⟩; refine ⟨_, rfl, ?_⟩; have n0_ := Aside0.mk (hb); have n1_ := Aside0.mk (hi); clear HB; have HB := n0_; have HI595 := n1_; clear n0_ n1_; (try clear hb); (try clear hb2); (try clear hk); (try clear hi)) | ((with_reducible refine gate_dst (N := 8) rfl ?_); refine Kd.R_lit k61 _ 61 ?hg (N := 8) ?hd (xs := ([] : List (S61))) (inner := []) (ok := fun _ => True) (okp := fun _ => True) ?hr ?hp (fun _ hk => hk) trivial (Below.refl _ _) (Nat.le_refl _) (by simp) ?_; (case hd => rfl); (case hg => rfl); (case hr => first | (go_simp; done) | (go_simp; rfl)); (case hp => exact (Reps.none _ _)); intro v597 w5 ho6 hb hg_ hnew_; clear hg_ hnew_; (first | rw [← Ny596.out] at ho6 | (simp only [Int.reduceToNat] at ho6; rw [← Ny596.out] at ho6)); have n0_ := Aside0.mk (Kd.R_lower ho6 (below_size (by repeat (first | (with_reducible first | exact HB.out | apply below_alloc | apply pw_below_drewN | apply below_drew1 | refine below_set ?_ (IsS111.ge HI595.out)) | exact HB.out)))); have n1_ := Aside0.mk (IsS111.below (by repeat (first | (with_reducible first | exact HI595.out | apply IsS111.alloc | apply IsS111.drewN | apply IsS111.drew | apply IsS111.set_1) | exact HI595.out)) hb); have n2_ := Aside0.mk (below_step (by repeat (first | (with_reducible first | exact HB.out | apply below_alloc | apply pw_below_drewN | apply below_drew1 | refine below_set ?_ (IsS111.ge HI595.out)) | exact HB.out)) hb); clear HI595; clear HB; have HO598 := n0_; have HI595 := n1_; have HB := n2_; clear n0_ n1_ n2_; clear hb ho6) | ((with_reducible refine gate_callee (f := 70) rfl ?_); refine goesL_ (some 10) rfl rfl Try.func70 (by kernel_rfl) rfl #[.pointer (some ⟨g595, 0, none⟩), .int .i64 10] rfl (by (try simp only [List.map_toArray, List.map_cons, List.map_nil]); first | done | rfl | (simp only [List.length_drop, List.length_take]; rfl)) ?_; (with_reducible refine (spec_l20Rd_pick.calls k g595 t593 t594 10 t599 t600 w _ ?side1 ?side2 A3.out).mono ?_); (case side1 => repeat (first | (with_reducible first | exact HI595.out | apply IsS111.alloc | apply IsS111.drewN | apply IsS111.drew | apply IsS111.set_1) | exact HI595.out)); (case side2 => repeat (first | (with_reducible first | exact HB.out | apply below_alloc | apply pw_below_drewN | apply below_drew1 | refine below_set ?_ (IsS111.ge HI595.out)) | exact HB.out)); rintro e w7 ⟨rfl, hi, hb, hk⟩; refine ⟨_, rfl, ?_⟩; have n0_ := Aside0.mk (Kd.R_mono (Kd.R_keep (IsS111.apart (show IsS111 w _ g595 t593 t594 from by repeat (first | (with_reducible first | exact HI595.out | apply IsS111.alloc | apply IsS111.drewN | apply IsS111.drew | apply IsS111.set_1) | exact HI595.out)) (by (with_reducible repeat (first | apply Kd.R_alloc | apply Kd.R_drewN | apply Kd.R_drew)); exact HO598.out) (by decide)) hk (fun _ h => h.2)) (fun _ h => h.1)); have n1_ := Aside0.mk (hb); have n2_ := Aside0.mk (hi); clear HO598; clear HB; clear HI595; have HO598 := n0_; have HB := n1_; have HI595 := n2_; clear n0_ n1_ n2_; (try clear hb); (try clear hb2); (try clear hk); (try clear hi)))
  go_loopg [4, 5] k (fun kq v4 v5 w' => ∃ (x4_1 : List (S61)) (x5_1 : Int) (x596001_1 : Int), v5 = .int .i64 x5_1 ∧ Aside0 (spec_DrawAsks.l0 kq x4_1 x5_1 t593 x596001_1 = some r) ∧ Aside0 (kq ≤ k) ∧ Aside0 (Kd.R k61 61 w' w.heap.size (fun _ => True) v4 x4_1) ∧ Aside0 (IsS111 w w' g595 t593 x596001_1) ∧ Aside0 (Below w.heap.size w w'))
  case atStart => exact ⟨(y596), (t599), (t600), (by first | rfl | (simp; done) | (simp [*]; done)), H', ⟨Nat.le_refl _⟩, ⟨by (with_reducible repeat (first | apply Kd.R_alloc | apply Kd.R_drewN | apply Kd.R_drew)); exact HO598.out⟩, ⟨by repeat (first | (with_reducible first | exact HI595.out | apply IsS111.alloc | apply IsS111.drewN | apply IsS111.drew | apply IsS111.set_1) | exact HI595.out)⟩, ⟨by repeat (first | (with_reducible first | exact HB.out | apply below_alloc | apply pw_below_drewN | apply below_drew1 | refine below_set ?_ (IsS111.ge HI595.out)) | exact HB.out)⟩⟩
  case round =>
    clear H'
    try clear c2
    try clear p2
    try clear c4
    try clear c7
    obtain ⟨x4_1, x5_1, x596001_1, rfl, HA, HK1, HO_4, HI595, HB⟩ := hrel
    cases gk with
    | zero => exact absurd HA.out (by simp [spec_DrawAsks.l0])
    | succ k1 =>
      have H := HA.out
      clear HA
      simp only [spec_DrawAsks.l0] at H
      by_cases c8 : x5_1 > 0
      · rw [if_pos c8] at H
        have c8b0 : decide (0 < x5_1) = true := decide_eq_true c8
        clear c8
        replace H := Option.bind_eq_some_iff.mp H
        obtain ⟨⟨t601, t602⟩, A90, H⟩ := H
        replace H : ((spec_l20Rd_pick.f k1 t593 t602 5).bind fun bt603 => (if x4_1.length < 5864062014805 then (spec_DrawAsks.l0 k1 (x4_1 ++ [(⟨t601, bt603.1, 1⟩ : S61)]) (wrap64 (x5_1 - 1)) t593 bt603.2) else (none))) = some r := H
        have A9 := Aside0.mk A90
        clear A90
        replace H := Option.bind_eq_some_iff.mp H
        obtain ⟨⟨t603, t604⟩, A100, H⟩ := H
        replace H : (if x4_1.length < 5864062014805 then (spec_DrawAsks.l0 k1 (x4_1 ++ [(⟨t601, t603, 1⟩ : S61)]) (wrap64 (x5_1 - 1)) t593 t604) else (none)) = some r := H
        have A10 := Aside0.mk A100
        clear A100
        by_cases c11 : x4_1.length < 5864062014805
        · rw [if_pos c11] at H
          have LMc11 := Aside0.mk c11
          clear c11
          obtain ⟨y605, hy605⟩ : ∃ y_ : List (S61), y_ = (x4_1 ++ [(⟨t601, t603, 1⟩ : S61)]) := ⟨_, rfl⟩
          replace H : (spec_DrawAsks.l0 k1 y605 (wrap64 (x5_1 - 1)) t593 t604) = some r := by first | (rw [hy605]; with_reducible exact H) | (have H2_ := (Option.bind_some _ _).symm.trans H; rw [hy605]; with_reducible exact H2_) | (have H2_ := (Option.bind_some _ _).symm.trans H; with_reducible exact H2_) | with_reducible exact H | (rw [hy605]; exact H) | exact H
          have Ny605 := Aside0.mk hy605
          clear hy605
          have H' := Aside0.mk H
          clear H
          go_wp2_with (first | ((with_reducible refine gate_callee (f := 70) rfl ?_); refine goesL_ (some 17) rfl rfl Try.func70 (by kernel_rfl) rfl #[.pointer (some ⟨g595, 0, none⟩), .int .i64 4] rfl (by (try simp only [List.map_toArray, List.map_cons, List.map_nil]); first | done | rfl | (simp only [List.length_drop, List.length_take]; rfl)) ?_; (with_reducible refine (spec_l20Rd_pick.calls k1 g595 t593 x596001_1 4 t601 t602 w _ ?side1 ?side2 A9.out).mono ?_); (case side1 => repeat (first | (with_reducible first | exact HI595.out | apply IsS111.alloc | apply IsS111.drewN | apply IsS111.drew | apply IsS111.set_1) | exact HI595.out)); (case side2 => repeat (first | (with_reducible first | exact HB.out | apply below_alloc | apply pw_below_drewN | apply below_drew1 | refine below_set ?_ (IsS111.ge HI595.out)) | exact HB.out)); rintro e w12 ⟨rfl, hi, hb, hk⟩; refine ⟨_, rfl, ?_⟩; have n0_ := Aside0.mk (Kd.R_mono (Kd.R_keep (IsS111.apart (show IsS111 w _ g595 t593 x596001_1 from by repeat (first | (with_reducible first | exact HI595.out | apply IsS111.alloc | apply IsS111.drewN | apply IsS111.drew | apply IsS111.set_1) | exact HI595.out)) (by (with_reducible repeat (first | apply Kd.R_alloc | apply Kd.R_drewN | apply Kd.R_drew)); exact HO_4.out) (by decide)) hk (fun _ h => h.2)) (fun _ h => h.1)); have n1_ := Aside0.mk (hb); have n2_ := Aside0.mk (hi); clear HO_4; clear HB; clear HI595; have HO_4 := n0_; have HB := n1_; have HI595 := n2_; clear n0_ n1_ n2_; (try clear hb); (try clear hb2); (try clear hk); (try clear hi)) | ((with_reducible refine gate_callee (f := 70) rfl ?_); refine goesL_ (some 19) rfl rfl Try.func70 (by kernel_rfl) rfl #[.pointer (some ⟨g595, 0, none⟩), .int .i64 5] rfl (by (try simp only [List.map_toArray, List.map_cons, List.map_nil]); first | done | rfl | (simp only [List.length_drop, List.length_take]; rfl)) ?_; (with_reducible refine (spec_l20Rd_pick.calls k1 g595 t593 t602 5 t603 t604 w _ ?side1 ?side2 A10.out).mono ?_); (case side1 => repeat (first | (with_reducible first | exact HI595.out | apply IsS111.alloc | apply IsS111.drewN | apply IsS111.drew | apply IsS111.set_1) | exact HI595.out)); (case side2 => repeat (first | (with_reducible first | exact HB.out | apply below_alloc | apply pw_below_drewN | apply below_drew1 | refine below_set ?_ (IsS111.ge HI595.out)) | exact HB.out)); rintro e w13 ⟨rfl, hi, hb, hk⟩; refine ⟨_, rfl, ?_⟩; have n0_ := Aside0.mk (Kd.R_mono (Kd.R_keep (IsS111.apart (show IsS111 w _ g595 t593 t602 from by repeat (first | (with_reducible first | exact HI595.out | apply IsS111.alloc | apply IsS111.drewN | apply IsS111.drew | apply IsS111.set_1) | exact HI595.out)) (by (with_reducible repeat (first | apply Kd.R_alloc | apply Kd.R_drewN | apply Kd.R_drew)); exact HO_4.out) (by decide)) hk (fun _ h => h.2)) (fun _ h => h.1)); have n1_ := Aside0.mk (hb); have n2_ := Aside0.mk (hi); clear HO_4; clear HB; clear HI595; have HO_4 := n0_; have HB := n1_; have HI595 := n2_; clear n0_ n1_ n2_; (try clear hb); (try clear hb2); (try clear hk); (try clear hi)) | ((with_reducible refine gate_builtin (b := .append) (xs := #[.tmp 15, .tmp 21]) rfl ?_); at_builtin; refine Kd.R_append k61 (w0 := w) w.heap.size rfl (.tmp 15) (.tmp 21) 51 61 (.agg #[(.int .i64 0), (.int .i64 0), (.int .i64 0)]) 24 rfl Try.underlying51 info61 rfl (by decide) (by omega) u4 x4_1 (⟨t601, t603, 1⟩ : S61) [.int .i64 t601, .int .i64 t603, .int .i64 1] (fun _ => True) (fun _ => False) rfl rfl ?aP (fun _ hk => hk.elim) ?aF ?aO ?aB ?aS ?aL ?_; (case aP => exact k61_mkM _ _ _ (⟨t601, t603, 1⟩ : S61)); (case aB => exact (by repeat (first | (with_reducible first | exact HB.out | apply below_alloc | apply pw_below_drewN | apply below_drew1 | refine below_set ?_ (IsS111.ge HI595.out)) | exact HB.out))); (case aF => exact (fun _ _ => trivial)); (case aO => exact (by (with_reducible repeat (first | apply Kd.R_alloc | apply Kd.R_drewN | apply Kd.R_drew)); exact HO_4.out)); (case aS => exact (below_size (by repeat (first | (with_reducible first | exact HB.out | apply below_alloc | apply pw_below_drewN | apply below_drew1 | refine below_set ?_ (IsS111.ge HI595.out)) | exact HB.out)))); (case aL => have := LMc11.out; omega); intro v606 w14 ho hb hg hat; rw [← Ny605.out] at ho; have n0_ := Aside0.mk (IsS111.grown (by repeat (first | (with_reducible first | exact HI595.out | apply IsS111.alloc | apply IsS111.drewN | apply IsS111.drew | apply IsS111.set_1) | exact HI595.out)) hg (IsS111.own_ne HI595.out HO_4.out (by decide))); have n1_ := Aside0.mk (hb); have n2_ := Aside0.mk (ho); clear HI595; clear HB; clear HO_4; have HI595 := n0_; have HB := n1_; have HO607 := n2_; clear n0_ n1_ n2_; clear ho hb hg hat))
          go_roundg k1
          case measure => have := HK1.out; omega
          case rel => exact ⟨(y605), (wrap64 (x5_1 - 1)), (t604), (by first | rfl | (simp; done) | (simp [*]; done)), H', ⟨by have := HK1.out; omega⟩, ⟨by (with_reducible repeat (first | apply Kd.R_alloc | apply Kd.R_drewN | apply Kd.R_drew)); exact HO607.out⟩, ⟨by repeat (first | (with_reducible first | exact HI595.out | apply IsS111.alloc | apply IsS111.drewN | apply IsS111.drew | apply IsS111.set_1) | exact HI595.out)⟩, ⟨by repeat (first | (with_reducible first | exact HB.out | apply below_alloc | apply pw_below_drewN | apply below_drew1 | refine below_set ?_ (IsS111.ge HI595.out)) | exact HB.out)⟩⟩
        · rw [if_neg c11] at H
          exact absurd H (by simp)
      · rw [if_neg c8] at H
        have c8b0 : decide (0 < x5_1) = false := decide_eq_false c8
        clear c8
        obtain rfl := Option.some.inj H
        go_wp2
        go_ret
        exact ⟨_, by first | rfl | (simp [errW_none, errW_some] <;> rfl) | (simp [*, errW_none, errW_some] <;> rfl), by (with_reducible repeat (first | apply Kd.R_alloc | apply Kd.R_drewN | apply Kd.R_drew)); exact HO_4.out, by repeat (first | (with_reducible first | exact HB.out | apply below_alloc | apply pw_below_drewN | apply below_drew1 | refine below_set ?_ (IsS111.ge HI595.out)) | exact HB.out)⟩

-- NOT PRINTED: function 75 (impl_Ask_75)

/-! ### impl_Ask_103: function 103 -/
theorem impl_Ask_103.clip (A0 : Option Addr) (n c : Nat) (w : World) (hn : n ≤ c) :
    Calls Try.prog 75 #[.slice A0 n c] w fun e w' => e = .returned (.slice A0 n n) ∧ w' = w := by
  have hu51 := Try.underlying51
  have h0 : decide ((0 : Int) ≤ (n : Int)) = true := decide_eq_true (by omega)
  have h1 : decide ((n : Int) ≤ (c : Int)) = true := decide_eq_true (by omega)
  have h2 : decide ((n : Int) ≤ (n : Int)) = true := decide_eq_true (by omega)
  go_enter Try.func75, Try.ntmps75
  go_wp2
  go_ret
  exact ⟨rfl, rfl⟩
def impl_Ask_103.f (l0 : List (S61)) : Option ((List (S61))) := if l0.length ≤ 2000000 then some l0 else none
theorem impl_Ask_103.calls (A0 : Option Addr) (c0 : Nat) (l0 : List (S61)) (r : List (S61)) (w : World) (hr0 : Kd.C k61 w A0 l0.length l0) (hc0 : l0.length ≤ c0) (h : impl_Ask_103.f l0 = some r) :
    Calls Try.prog 103 #[.slice A0 l0.length c0] w fun e w' => ∃ v0_ : Value, e = .returned (v0_) ∧ Kd.R k61 61 w' w.heap.size (fun _ => True) v0_ r ∧ Below w.heap.size w w' := by
  have hu51 := Try.underlying51
  have hu61 := Try.underlying61
  have HR0 := Aside0.mk hr0
  have HB := Aside0.mk (Below.refl w.heap.size w)
  clear hr0
  unfold impl_Ask_103.f at h
  by_cases hl : l0.length ≤ 2000000
  · rw [if_pos hl] at h
    obtain rfl := Option.some.inj h
    by_cases h0 : l0.length = 0
    · have hz : ((l0.length : Int) == 0) = true := by simp [h0]
      have hnil : l0 = [] := List.length_eq_zero_iff.1 h0
      go_enter Try.func103, Try.ntmps103
      go_wp2
      go_ret
      refine ⟨_, rfl, ?_, HB.out⟩
      first | exact Kd.R_nil _ _ _ _ _ | (rw [hnil]; exact Kd.R_nil _ _ _ _ _)
    · have hz : ((l0.length : Int) == 0) = false := by simp [h0]
      go_enter Try.func103, Try.ntmps103
      go_wp2_with (first | ((with_reducible refine gate_builtin (b := .append) rfl ?_); at_builtin; refine Kd.R_append_rows k61 (w0 := w) w.heap.size rfl _ (.tmp 6) 51 61 (.agg #[(.int .i64 0), (.int .i64 0), (.int .i64 0)]) 24 rfl Try.underlying51 info61 rfl (by decide) (by omega) (.slice none 0 0) [] l0 _ _ _ (fun _ => True) (fun _ => False) rfl rfl (Kd.R_nil _ _ _ _ _) HR0.out (fun _ _ h => h) (fun _ h => h.elim) (fun _ _ => trivial) HB.out (Nat.le_refl _) (by simp only [List.length_nil]; omega) ?_; intro v1 w1 ho hb hg hat; rw [List.nil_append] at ho; have HO := Aside0.mk ho; have HB1 := Aside0.mk hb; clear ho hb hg hat; obtain ⟨A1, c1, e1⟩ := Kd.R_slice HO.out; subst e1) | (go_at_call 75; (with_reducible refine (impl_Ask_103.clip _ _ _ _ ?sideq).mono ?_); (case sideq => exact (Kd.R_reads' HO.out).2.1); rintro e w2 ⟨rfl, rfl⟩))
      go_ret
      exact ⟨_, rfl, Kd.R_clip HO.out, HB1.out⟩
  · rw [if_neg hl] at h
    cases h
end

section
/-! ### impl_Locks_copy: function 71 -/
def impl_Locks_copy.f (l0_0 : List (S61)) (l0_1 : List (S61)) : Option ((List (S61)) × (List (S61))) := (impl_Ask_103.f l0_0).bind fun t610 => ((impl_Ask_103.f l0_1).bind fun t613 => (some (t610, t613)))
def impl_Locks_copy.T1 : Bool × List (List Nat × List Nat) := (true, [([], []), ([0], [0]), ([1], [1]), ([], []), ([3], [3]), ([4, 2], [4]), ([2, 5], [2, 5]), ([6, 5, 0, 1, 2, 3, 4, 5, 6], [6])])
def impl_Locks_copy.B1 : List Nat := [0, 1, 3, 0, 8, 31, 63, 127]
theorem impl_Locks_copy.tab1 : rtab .any (opsOf Try.f71 1) = impl_Locks_copy.T1 := by kernel_rfl
theorem impl_Locks_copy.bits1 : waitsOk impl_Locks_copy.T1.2 impl_Locks_copy.B1 = true := by kernel_rfl
set_option maxHeartbeats 8000000 in
set_option maxRecDepth 100000 in
theorem impl_Locks_copy.calls (A0_0 : Option Addr) (c0_0 : Nat) (l0_0 : List (S61)) (A0_1 : Option Addr) (c0_1 : Nat) (l0_1 : List (S61)) (r1 : List (S61)) (r2 : List (S61)) (w : World) (hr0_0 : Kd.C k61 w A0_0 l0_0.length l0_0) (hc0_0 : l0_0.length ≤ c0_0) (hr0_1 : Kd.C k61 w A0_1 l0_1.length l0_1) (hc0_1 : l0_1.length ≤ c0_1) (h : impl_Locks_copy.f l0_0 l0_1 = some (r1, r2)) :
    Calls Try.prog 71 #[.agg #[.slice A0_0 l0_0.length c0_0, .slice A0_1 l0_1.length c0_1]] w fun e w' => ∃ v0_ v1_ : Value, e = .returned (.agg #[v0_, v1_]) ∧ Kd.R k61 61 w' w.heap.size (fun k_ => some k_ ≠ (v1_ : Value).ownBlock) v0_ r1 ∧ Kd.R k61 61 w' w.heap.size (fun k_ => some k_ ≠ (v0_ : Value).ownBlock) v1_ r2 ∧ Below w.heap.size w w' := by
  have hu53 := Try.underlying53
  have HR0_0 := Aside0.mk hr0_0
  have HC0_0 := Aside0.mk hc0_0
  clear hr0_0 hc0_0
  have HR0_1 := Aside0.mk hr0_1
  have HC0_1 := Aside0.mk hc0_1
  clear hr0_1 hc0_1
  have HB := Aside0.mk (Below.refl w.heap.size w)
  have H : ((impl_Ask_103.f l0_0).bind fun t610 => ((impl_Ask_103.f l0_1).bind fun t613 => (some (t610, t613)))) = some (r1, r2) := h
  clear h
  replace H := Option.bind_eq_some_iff.mp H
  obtain ⟨t610, A20, H⟩ := H
  replace H : ((impl_Ask_103.f l0_1).bind fun t613 => (some (t610, t613))) = some (r1, r2) := H
  have A2 := Aside0.mk A20
  clear A20
  replace H := Option.bind_eq_some_iff.mp H
  obtain ⟨t613, A30, H⟩ := H
  replace H : (some (t610, t613)) = some (r1, r2) := H
  have A3 := Aside0.mk A30
  clear A30
  simp only [Option.some.injEq, Prod.mk.injEq] at H
  obtain ⟨rfl, rfl⟩ := H
  go_enter Try.func71, Try.ntmps71
  try go_wp2_with (first | ((with_reducible refine gate_dst (N := 1) rfl ?_); refine box_event ?hg (N := 1) ?hd (cs := #[.slice A0_0 l0_0.length c0_0, .slice A0_1 l0_1.length c0_1]) (t := 53) ?hr ?_; (case hd => rfl); (case hg => rfl); (case hr => first | (go_simp; done) | (go_simp; rfl)); intro gb608 hg w4 hbox hb; have n0_ := Aside0.mk (below_step (by repeat (first | (with_reducible first | exact HB.out | apply below_alloc | apply pw_below_drewN | apply below_drew1) | exact HB.out)) hb); have n1_ := Aside0.mk (hbox); have n2_ := Aside0.mk ((by rw [hg]; exact (below_size (by repeat (first | (with_reducible first | exact HB.out | apply below_alloc | apply pw_below_drewN | apply below_drew1) | exact HB.out))) : w.heap.size ≤ gb608)); have n3_ := Aside0.mk ((by rw [hg]; exact (below_size (by repeat (first | (with_reducible first | exact HB.out | apply below_alloc | apply pw_below_drewN | apply below_drew1) | exact HB.out))) : w.heap.size ≤ gb608)); clear HB; have HB := n0_; have BK608 := n1_; have GW608 := n2_; have GE608 := n3_; clear n0_ n1_ n2_ n3_; clear hb hbox hg) | ((with_reducible refine gate_dst (N := 2) rfl ?_); refine box_event ?hg (N := 2) ?hd (cs := #[.slice none 0 0, .slice none 0 0]) (t := 53) ?hr ?_; (case hd => rfl); (case hg => rfl); (case hr => first | (go_simp; done) | (go_simp; rfl)); intro gb609 hg w5 hbox hb; have n0_ := Aside0.mk (blk_below (g := gb608) (o := .cells #[.slice A0_0 l0_0.length c0_0, .slice A0_1 l0_1.length c0_1] 53 (0, 0)) (by (with_reducible repeat (first | refine blk_drewN ?_ _ | refine blk_drew ?_ | refine blk_alloc ?_ _)); exact BK608.out) hb); have n1_ := Aside0.mk (below_step (by repeat (first | (with_reducible first | exact HB.out | apply below_alloc | apply pw_below_drewN | apply below_drew1 | refine below_set ?_ GE608.out) | exact HB.out)) hb); have n2_ := Aside0.mk (hbox); have n3_ := Aside0.mk ((by rw [hg]; exact (below_size (by repeat (first | (with_reducible first | exact HB.out | apply below_alloc | apply pw_below_drewN | apply below_drew1 | refine below_set ?_ GE608.out) | exact HB.out))) : w.heap.size ≤ gb609)); have n4_ := Aside0.mk ((by rw [hg]; exact (below_size (by repeat (first | (with_reducible first | exact HB.out | apply below_alloc | apply pw_below_drewN | apply below_drew1 | refine below_set ?_ GE608.out) | exact HB.out))) : w.heap.size ≤ gb609)); have n5_ := Aside0.mk ((by rw [hg]; exact Nat.ne_of_lt (blk_lt (g := gb608) (o := .cells #[.slice A0_0 l0_0.length c0_0, .slice A0_1 l0_1.length c0_1] 53 (0, 0)) (by (with_reducible repeat (first | refine blk_drewN ?_ _ | refine blk_drew ?_ | refine blk_alloc ?_ _)); exact BK608.out)) : gb608 ≠ gb609)); have n6_ := Aside0.mk ((by rw [hg]; exact Nat.ne_of_gt (blk_lt (g := gb608) (o := .cells #[.slice A0_0 l0_0.length c0_0, .slice A0_1 l0_1.length c0_1] 53 (0, 0)) (by (with_reducible repeat (first | refine blk_drewN ?_ _ | refine blk_drew ?_ | refine blk_alloc ?_ _)); exact BK608.out)) : gb609 ≠ gb608)); clear BK608; clear HB; have BK608 := n0_; have HB := n1_; have BK609 := n2_; have GW609 := n3_; have GE609 := n4_; have NB608_609 := n5_; have NB609_608 := n6_; clear n0_ n1_ n2_ n3_ n4_ n5_ n6_; clear hb hbox hg))
  have n0_ := Aside0.mk (blk_drew BK608.out)
  have n1_ := Aside0.mk (blk_drew BK609.out)
  have n2_ := Aside0.mk (below_drew1 HB.out)
  clear BK608
  clear BK609
  clear HB
  have BK608 := n0_
  have BK609 := n1_
  have HB := n2_
  clear n0_ n1_ n2_
  refine start_ (n := 8) (S := fun w' => w'.cell? ⟨gb608, 0, none⟩ = some (.slice A0_0 l0_0.length c0_0) ∧ w'.cell? ⟨gb608, 1, none⟩ = some (.slice A0_1 l0_1.length c0_1)) (ds := []) #[false, false, false, false, false, false, false, false] (by kernel_rfl) rfl rfl ⟨(blk_cell BK608.out 0).trans rfl, (blk_cell BK608.out 1).trans rfl⟩ (fun hHeld => ?_); refine with_tabW impl_Locks_copy.tab1 impl_Locks_copy.bits1 (fun HT_ HW_ => ?_)
  generalize w5.drew = w6 at BK608 BK609 HB hHeld ⊢
  refine pure_ (i := 0) (N := some 3) (v := ?_) (a' := ?_) #[true, false, false, false, false, false, false, false] rfl rfl (any_of HT_.out (by kernel_rfl)) (fun _ _ _ h => h) (Or.inl ⟨by rfl, ?_⟩) ?_ ?_
  rotate_left
  · intro w'
    go_simp
    with_reducible rfl
  rotate_left
  · simp only [Act.put, List.setIfInBounds_toArray, List.set_cons_zero, List.set_cons_succ, i64_w, i32_w]
    rfl
  refine pure_ (i := 3) (N := some 6) (v := ?_) (a' := ?_) #[true, false, false, true, false, false, false, false] rfl rfl (any_of HT_.out (by kernel_rfl)) (fun _ _ _ h => h) (Or.inl ⟨by rfl, ?_⟩) ?_ ?_
  rotate_left
  · intro w'
    go_simp
    with_reducible rfl
  rotate_left
  · simp only [Act.put, List.setIfInBounds_toArray, List.set_cons_zero, List.set_cons_succ, i64_w, i32_w]
    rfl
  refine take_ (i := 1) (N := some 4) (v := ?_) (a' := ?_) #[true, true, false, true, false, false, false, false] rfl rfl (take_ofW HT_.out HW_.out (by kernel_rfl)) (fun _ _ _ h => h) (Or.inl ⟨by rfl, ?_⟩) hHeld ?_ ?_
  rotate_left
  · rintro w' ⟨s0, s1⟩
    go_simp
    with_reducible rfl
  rotate_left
  · simp only [Act.put, List.setIfInBounds_toArray, List.set_cons_zero, List.set_cons_succ, i64_w, i32_w]
    rfl
  refine take_ (i := 4) (N := some 7) (v := ?_) (a' := ?_) #[true, true, false, true, true, false, false, false] rfl rfl (take_ofW HT_.out HW_.out (by kernel_rfl)) (fun _ _ _ h => h) (Or.inl ⟨by rfl, ?_⟩) hHeld ?_ ?_
  rotate_left
  · rintro w' ⟨s0, s1⟩
    go_simp
    with_reducible rfl
  rotate_left
  · simp only [Act.put, List.setIfInBounds_toArray, List.set_cons_zero, List.set_cons_succ, i64_w, i32_w]
    rfl
  refine one_ (i := 2) (N := some 5) #[true, true, true, true, true, false, false, false] rfl rfl (one_of HT_.out (by kernel_rfl)) (by decide) (fun K hK => ?_)
  refine goes_ Try.func103 (by kernel_rfl) rfl #[.slice A0_0 l0_0.length c0_0] (by rfl) rfl rfl (by (try simp only [List.map_toArray, List.map_cons, List.map_nil]); first | done | rfl | (simp only [List.length_drop, List.length_take]; rfl)) ?_
  with_reducible refine (impl_Ask_103.calls _ _ l0_0 t610 _ ?side1 ?side2 A2.out).mono ?_
  (case side1 => repeat (first | exact (Kd.C_below HR0_0.out HB.out) | (with_reducible refine Kd.C_alloc ?_ _) | (with_reducible refine Kd.C_drewN ?_ _) | (with_reducible refine Kd.C_drew ?_)))
  (case side2 => exact HC0_0.out)
  rintro e w7 ⟨v611, rfl, ho0, hb⟩
  refine ⟨_, rfl, ?_⟩
  have n0_ := Aside0.mk (Kd.R_lower ho0 (below_size (by repeat (first | (with_reducible first | exact HB.out | apply below_alloc | apply pw_below_drewN | apply below_drew1 | refine below_set ?_ GE608.out | refine below_set ?_ GE609.out) | exact HB.out))))
  have n1_ := Aside0.mk (blk_below (g := gb608) (o := .cells #[.slice A0_0 l0_0.length c0_0, .slice A0_1 l0_1.length c0_1] 53 (0, 0)) (by (with_reducible repeat (first | refine blk_drewN ?_ _ | refine blk_drew ?_ | refine blk_alloc ?_ _)); exact BK608.out) hb)
  have n2_ := Aside0.mk (blk_below (g := gb609) (o := .cells #[.slice none 0 0, .slice none 0 0] 53 (0, 0)) (by (with_reducible repeat (first | refine blk_drewN ?_ _ | refine blk_drew ?_ | refine blk_alloc ?_ _)); exact BK609.out) hb)
  have n3_ := Aside0.mk (below_step (by repeat (first | (with_reducible first | exact HB.out | apply below_alloc | apply pw_below_drewN | apply below_drew1 | refine below_set ?_ GE608.out | refine below_set ?_ GE609.out) | exact HB.out)) hb)
  clear BK608
  clear BK609
  clear HB
  have HO612 := n0_
  have BK608 := n1_
  have BK609 := n2_
  have HB := n3_
  clear n0_ n1_ n2_ n3_
  (try clear hb)
  (try clear hb2)
  (try clear hk)
  (try clear hi)
  (try clear ho0)
  refine hK.out _ _ ⟨(blk_cell BK608.out 0).trans rfl, (blk_cell BK608.out 1).trans rfl⟩ (fun hHeld => ?_)
  clear hK K
  refine norm_ (a' := ?_) ?_ ?_
  rotate_left
  · show Act.put _ (some 5) _ = _
    simp only [Act.put, List.setIfInBounds_toArray, List.set_cons_zero, List.set_cons_succ, i64_w, i32_w]
    rfl
  refine one_ (i := 5) (N := some 8) #[true, true, true, true, true, true, false, false] rfl rfl (one_of HT_.out (by kernel_rfl)) (by decide) (fun K hK => ?_)
  refine goes_ Try.func103 (by kernel_rfl) rfl #[.slice A0_1 l0_1.length c0_1] (by rfl) rfl rfl (by (try simp only [List.map_toArray, List.map_cons, List.map_nil]); first | done | rfl | (simp only [List.length_drop, List.length_take]; rfl)) ?_
  with_reducible refine (impl_Ask_103.calls _ _ l0_1 t613 _ ?side1 ?side2 A3.out).mono ?_
  (case side1 => repeat (first | exact (Kd.C_below HR0_1.out HB.out) | (with_reducible refine Kd.C_alloc ?_ _) | (with_reducible refine Kd.C_drewN ?_ _) | (with_reducible refine Kd.C_drew ?_)))
  (case side2 => exact HC0_1.out)
  rintro e w8 ⟨v614, rfl, ho0, hb⟩
  refine ⟨_, rfl, ?_⟩
  have n0_ := Aside0.mk (Kd.R_elder' (by (with_reducible repeat (first | apply Kd.R_alloc | apply Kd.R_drewN | apply Kd.R_drew)); exact HO612.out) (Kd.R_base ho0) hb)
  have n1_ := Aside0.mk (Kd.R_lower (Kd.R_new' ho0 (Kd.R_lt (by (with_reducible repeat (first | apply Kd.R_alloc | apply Kd.R_drewN | apply Kd.R_drew)); exact HO612.out))) (below_size (by repeat (first | (with_reducible first | exact HB.out | apply below_alloc | apply pw_below_drewN | apply below_drew1 | refine below_set ?_ GE608.out | refine below_set ?_ GE609.out) | exact HB.out))))
  have n2_ := Aside0.mk (blk_below (g := gb608) (o := .cells #[.slice A0_0 l0_0.length c0_0, .slice A0_1 l0_1.length c0_1] 53 (0, 0)) (by (with_reducible repeat (first | refine blk_drewN ?_ _ | refine blk_drew ?_ | refine blk_alloc ?_ _)); exact BK608.out) hb)
  have n3_ := Aside0.mk (blk_below (g := gb609) (o := .cells #[.slice none 0 0, .slice none 0 0] 53 (0, 0)) (by (with_reducible repeat (first | refine blk_drewN ?_ _ | refine blk_drew ?_ | refine blk_alloc ?_ _)); exact BK609.out) hb)
  have n4_ := Aside0.mk (below_step (by repeat (first | (with_reducible first | exact HB.out | apply below_alloc | apply pw_below_drewN | apply below_drew1 | refine below_set ?_ GE608.out | refine below_set ?_ GE609.out) | exact HB.out)) hb)
  clear HO612
  clear BK608
  clear BK609
  clear HB
  have HO612 := n0_
  have HO615 := n1_
  have BK608 := n2_
  have BK609 := n3_
  have HB := n4_
  clear n0_ n1_ n2_ n3_ n4_
  (try clear hb)
  (try clear hb2)
  (try clear hk)
  (try clear hi)
  (try clear ho0)
  obtain ⟨Ao9, co9, eo9⟩ := Kd.R_slice HO615.out
  (first | subst eo9 | (injection eo9 with f1_ f2_ f3_; have f4_ := f1_.symm; have f5_ := f3_.symm; clear f1_ f2_ f3_; subst f4_; subst f5_))
  obtain ⟨Ao10, co10, eo10⟩ := Kd.R_slice HO612.out
  (first | subst eo10 | (injection eo10 with f1_ f2_ f3_; have f4_ := f1_.symm; have f5_ := f3_.symm; clear f1_ f2_ f3_; subst f4_; subst f5_))
  refine hK.out _ _ ⟨(blk_cell BK608.out 0).trans rfl, (blk_cell BK608.out 1).trans rfl⟩ (fun hHeld => ?_)
  clear hK K
  refine norm_ (a' := ?_) ?_ ?_
  rotate_left
  · show Act.put _ (some 8) _ = _
    simp only [Act.put, List.setIfInBounds_toArray, List.set_cons_zero, List.set_cons_succ, i64_w, i32_w]
    rfl
  refine pure_ (i := 6) (N := some 9) (v := ?_) (a' := ?_) #[true, true, true, true, true, true, true, false] rfl rfl (any_of HT_.out (by kernel_rfl)) (fun _ _ _ h => h) (Or.inl ⟨by rfl, ?_⟩) ?_ ?_
  rotate_left
  · intro w'
    go_simp
    with_reducible rfl
  rotate_left
  · simp only [Act.put, List.setIfInBounds_toArray, List.set_cons_zero, List.set_cons_succ, i64_w, i32_w]
    rfl
  refine one_ (i := 7) (N := none) #[true, true, true, true, true, true, true, true] rfl rfl (one_of HT_.out (by kernel_rfl)) (by decide) (fun K hK => ?_)
  have hs11 : w8.cell? ⟨gb609, 0, none⟩ = some (.slice none 0 0) := (blk_cell BK609.out 0).trans rfl
  have hfs11 := blk_frozen BK609.out 0
  have hns11_0 := NB608_609.out
  have hms11_0 := NB609_608.out
  have hs12 : w8.cell? ⟨gb609, 1, none⟩ = some (.slice none 0 0) := (blk_cell BK609.out 1).trans rfl
  have hfs12 := blk_frozen BK609.out 1
  have hns12_0 := NB608_609.out
  have hms12_0 := NB609_608.out
  refine skip_ (w1 := ?_) (by rfl) rfl ?_ ?_
  rotate_left
  · go_simp
    rfl
  refine hK.out _ _ ⟨((cell_far (p := ⟨gb609, _, none⟩) NB608_609.out _).trans (((cell_far (p := ⟨gb609, _, none⟩) NB608_609.out _).trans (hHeld.1)))), ((cell_far (p := ⟨gb609, _, none⟩) NB608_609.out _).trans (((cell_far (p := ⟨gb609, _, none⟩) NB608_609.out _).trans (hHeld.2))))⟩ (fun hHeld => ?_)
  clear hK K
  refine done_ (done_of HT_.out (by kernel_rfl)) ?_
  try go_wp2
  refine bodyPost_ret (results_cell_row rfl _ _ gb609 53 #[.slice Ao10 t610.length co10, .slice Ao9 t613.length co9] (0, 0) _ rfl (by (with_reducible repeat (first | refine blk_drewN ?_ _ | refine blk_drew ?_ | refine blk_alloc ?_ _)); refine blk_put (cs := #[.slice Ao10 t610.length co10, .slice none 0 0]) ?_ 1 _ rfl; (with_reducible repeat (first | refine blk_drewN ?_ _ | refine blk_drew ?_ | refine blk_alloc ?_ _)); refine blk_put (cs := #[.slice none 0 0, .slice none 0 0]) ?_ 0 _ rfl; (with_reducible repeat (first | refine blk_drewN ?_ _ | refine blk_drew ?_ | refine blk_alloc ?_ _)); exact BK609.out) Try.underlying53 rfl (by kernel_rfl)) rfl ?_
  exact ⟨_, _, by first | rfl | (simp [errW_none, errW_some] <;> rfl) | (simp [*, errW_none, errW_some] <;> rfl), by (with_reducible repeat (first | apply Kd.R_alloc | apply Kd.R_drewN | apply Kd.R_drew)); exact Kd.R_mono (Kd.R_far (p := ⟨gb609, 1, none⟩) (Kd.R_far (p := ⟨gb609, 0, none⟩) (Kd.R_types HO612.out BK609.out (by decide)) (fun _ hk => hk.2) (.slice Ao10 t610.length co10)) (fun _ hk => hk.2) (.slice Ao9 t613.length co9)) (fun _ hk => hk.1.2), by (with_reducible repeat (first | apply Kd.R_alloc | apply Kd.R_drewN | apply Kd.R_drew)); exact Kd.R_mono (Kd.R_far (p := ⟨gb609, 1, none⟩) (Kd.R_far (p := ⟨gb609, 0, none⟩) (Kd.R_types HO615.out BK609.out (by decide)) (fun _ hk => hk.2) (.slice Ao10 t610.length co10)) (fun _ hk => hk.2) (.slice Ao9 t613.length co9)) (fun _ hk => hk.1.2), by repeat (first | (with_reducible first | exact HB.out | apply below_alloc | apply pw_below_drewN | apply below_drew1 | refine below_set ?_ GE608.out | refine below_set ?_ GE609.out) | exact HB.out)⟩

/-! ### impl_Locks_waits: function 72 -/
theorem ws_copy (h : List LA) (hl : h.length ≤ 1000) : impl_Locks_copy.f h [] = some (h, []) := by
  unfold impl_Locks_copy.f impl_Ask_103.f
  rw [if_pos (by omega)]
  rfl
set_option maxHeartbeats 8000000 in
set_option maxRecDepth 100000 in
theorem ws_waits (A0 : Option Addr) (c0 : Nat) (h : List LA) (A1 : Option Addr) (c1 : Nat) (who : Int) (w : World) :
    Calls Try.prog 72 #[.agg #[.slice A0 h.length c0, .slice A1 0 c1], .int .i64 who] w fun e w' => e = .returned (.bool false) ∧ Below w.heap.size w w' := by
  have hu61 := Try.underlying61
  have hu53 := Try.underlying53
  have HH : Aside0 (∀ (W : World) (g : Nat), Calls Try.prog 62 #[.slice A1 0 c1, .func (.func 104) #[] #[.pointer (some ⟨g, 0, none⟩)]] W fun e w' => e = .returned (.bool false) ∧ Below W.heap.size W w') := ⟨fun W g =>
    has62.calls (fun _ => false) 104 #[.pointer (some ⟨g, 0, none⟩)] (enters_own Try.func104 (by kernel_rfl) rfl) A1 c1 ([] : List LA) W ⟨rfl, Nat.zero_le _, fun h_ => absurd h_ (Nat.lt_irrefl 0)⟩ (fun _ x _ hx _ _ => absurd hx (by simp))⟩
  have HB := Aside0.mk (Below.refl w.heap.size w)
  have ST0 := True.intro
  go_enter Try.func72, Try.ntmps72
  go_wp2_with (first | (have hck_ := ST2; clear hck_; go_at_call 62; (with_reducible refine (HH.out _ gn).mono ?_); rintro e w3 ⟨rfl, hb_⟩; clear hc_gl_0 hc_gl_1 hc_gn_0; have n_ := Aside0.mk (blk_below BK_gl.out hb_); clear BK_gl; have BK_gl : Aside0 (w3.heap[gl]? = some (.cells #[.slice A0 h.length c0, .slice A1 0 c1] 53 (0, 0))) := n_; clear n_; have n_ := Aside0.mk (blk_below BK_gn.out hb_); clear BK_gn; have BK_gn : Aside0 (w3.heap[gn]? = some (.cells #[.int .i64 who] 3 (0, 0))) := n_; clear n_; have n_ := Aside0.mk (below_step HB.out hb_); clear HB; have HB := n_; clear n_; have hc_gl_0 : w3.cell? ⟨gl, 0, none⟩ = some (.slice A0 h.length c0) := (blk_cell BK_gl.out 0).trans rfl; have hc_gl_1 : w3.cell? ⟨gl, 1, none⟩ = some (.slice A1 0 c1) := (blk_cell BK_gl.out 1).trans rfl; have hc_gn_0 : w3.cell? ⟨gn, 0, none⟩ = some (.int .i64 who) := (blk_cell BK_gn.out 0).trans rfl; clear hb_; have ST3 := True.intro) | (have hck_ := ST1; clear hck_; (with_reducible refine gate_dst (N := 3) rfl ?_); refine box_event ?hg (N := 3) ?hd (cs := #[.int .i64 who]) (t := 3) ?hr ?_; (case hd => rfl); (case hg => rfl); (case hr => first | (go_simp; done) | (go_simp; rfl)); intro gn hg_ w2 hbox_ hb_; have GE_gn : Aside0 (w.heap.size ≤ gn) := ⟨by rw [hg_]; exact below_size HB.out⟩; have NE_gl_gn : Aside0 (gl ≠ gn) := ⟨by rw [hg_]; exact Nat.ne_of_lt (blk_lt BK_gl.out)⟩; have NE_gn_gl : Aside0 (gn ≠ gl) := ⟨by rw [hg_]; exact Nat.ne_of_gt (blk_lt BK_gl.out)⟩; clear hc_gl_0 hc_gl_1; have n_ := Aside0.mk (blk_below BK_gl.out hb_); clear BK_gl; have BK_gl : Aside0 (w2.heap[gl]? = some (.cells #[.slice A0 h.length c0, .slice A1 0 c1] 53 (0, 0))) := n_; clear n_; have n_ := Aside0.mk (below_step HB.out hb_); clear HB; have HB := n_; clear n_; have BK_gn := Aside0.mk hbox_; have hc_gl_0 : w2.cell? ⟨gl, 0, none⟩ = some (.slice A0 h.length c0) := (blk_cell BK_gl.out 0).trans rfl; have hc_gl_1 : w2.cell? ⟨gl, 1, none⟩ = some (.slice A1 0 c1) := (blk_cell BK_gl.out 1).trans rfl; have hc_gn_0 : w2.cell? ⟨gn, 0, none⟩ = some (.int .i64 who) := (blk_cell BK_gn.out 0).trans rfl; clear hg_ hbox_ hb_; have ST2 := True.intro) | (have hck_ := ST0; clear hck_; (with_reducible refine gate_dst (N := 2) rfl ?_); refine box_event ?hg (N := 2) ?hd (cs := #[.slice A0 h.length c0, .slice A1 0 c1]) (t := 53) ?hr ?_; (case hd => rfl); (case hg => rfl); (case hr => first | (go_simp; done) | (go_simp; rfl)); intro gl hg_ w1 hbox_ hb_; have GE_gl : Aside0 (w.heap.size ≤ gl) := ⟨by rw [hg_]; exact below_size HB.out⟩; have n_ := Aside0.mk (below_step HB.out hb_); clear HB; have HB := n_; clear n_; have BK_gl := Aside0.mk hbox_; have hc_gl_0 : w1.cell? ⟨gl, 0, none⟩ = some (.slice A0 h.length c0) := (blk_cell BK_gl.out 0).trans rfl; have hc_gl_1 : w1.cell? ⟨gl, 1, none⟩ = some (.slice A1 0 c1) := (blk_cell BK_gl.out 1).trans rfl; clear hg_ hbox_ hb_; have ST1 := True.intro))
  go_ret
  exact ⟨rfl, HB.out⟩
end

section
/-! ### impl_Locks_grant: function 74 -/
set_option maxHeartbeats 8000000 in
set_option maxRecDepth 100000 in
theorem ws_each_cov (W0 W : World) (gb : Nat) (a x : LA) (cs : List Value) (h0 : W0.cell? ⟨gb, 0, none⟩ = some (.int .i64 a.f0)) (h1 : W0.cell? ⟨gb, 1, none⟩ = some (.int .i64 a.f1)) (h2 : W0.cell? ⟨gb, 2, none⟩ = some (.int .i64 a.f2)) (hb : Below W0.heap.size W0 W) (hK : Kd.K k61 W x cs) :
    Calls Try.prog 73 (#[.agg cs.toArray] ++ #[.pointer (some ⟨gb, 0, none⟩)]) W fun e w' => e = .returned (.bool (lk_cov x a)) ∧ Below W0.heap.size W0 w' := by
  obtain ⟨_, _, rfl, rfl, _, _, rfl, rfl, rfl⟩ := hK
  have ha0 := pw_cell_below hb h0
  have ha1 := pw_cell_below hb h1
  have ha2 := pw_cell_below hb h2
  have HB := Aside0.mk hb
  clear hb h0 h1 h2
  have hu61 := Try.underlying61
  show Calls Try.prog 73 #[.agg #[.int .i64 x.f0, .int .i64 x.f1, .int .i64 x.f2], .pointer (some ⟨gb, 0, none⟩)] W _
  go_enter Try.func73, Try.ntmps73
  go_wp2_with (first | ((with_reducible refine gate_dst (N := 2) rfl ?_); refine box_event ?hg (N := 2) ?hd (cs := #[.int .i64 x.f0, .int .i64 x.f1, .int .i64 x.f2]) (t := 61) ?hr ?_; (case hd => rfl); (case hg => rfl); (case hr => first | (go_simp; done) | (go_simp; rfl)); intro gw hg w1 hbox hb1; have hcgw_0 : w1.cell? ⟨gw, 0, none⟩ = some (.int .i64 x.f0) := (blk_cell hbox 0).trans rfl; have hcgw_1 : w1.cell? ⟨gw, 1, none⟩ = some (.int .i64 x.f1) := (blk_cell hbox 1).trans rfl; have hcgw_2 : w1.cell? ⟨gw, 2, none⟩ = some (.int .i64 x.f2) := (blk_cell hbox 2).trans rfl; have HBw1 := Aside0.mk hb1; replace ha0 := pw_cell_below HBw1.out ha0; replace ha1 := pw_cell_below HBw1.out ha1; replace ha2 := pw_cell_below HBw1.out ha2; clear hbox hb1 hg) | (go_at_call 67; (with_reducible refine (lk_covers x a _).mono ?_); rintro e w2 ⟨rfl, hb2⟩; have HBw2 := Aside0.mk hb2; clear hb2))
  go_ret
  exact ⟨rfl, below_step (below_step HB.out HBw1.out) HBw2.out⟩
set_option maxHeartbeats 8000000 in
set_option maxRecDepth 100000 in
theorem ws_each_same (W0 W : World) (gb : Nat) (a x : LA) (cs : List Value) (h0 : W0.cell? ⟨gb, 0, none⟩ = some (.int .i64 a.f0)) (h1 : W0.cell? ⟨gb, 1, none⟩ = some (.int .i64 a.f1)) (h2 : W0.cell? ⟨gb, 2, none⟩ = some (.int .i64 a.f2)) (hb : Below W0.heap.size W0 W) (hK : Kd.K k61 W x cs) :
    Calls Try.prog 105 (#[.agg cs.toArray] ++ #[.pointer (some ⟨gb, 0, none⟩)]) W fun e w' => e = .returned (.bool (lk_same a x)) ∧ Below W0.heap.size W0 w' := by
  obtain ⟨_, _, rfl, rfl, _, _, rfl, rfl, rfl⟩ := hK
  have ha0 := pw_cell_below hb h0
  have ha1 := pw_cell_below hb h1
  have ha2 := pw_cell_below hb h2
  have HB := Aside0.mk hb
  clear hb h0 h1 h2
  have hu61 := Try.underlying61
  show Calls Try.prog 105 #[.agg #[.int .i64 x.f0, .int .i64 x.f1, .int .i64 x.f2], .pointer (some ⟨gb, 0, none⟩)] W _
  by_cases t0 : x.f0 = a.f0
  · have q0 : (x.f0 == a.f0) = true := by simpa using t0
    have p0 : (x.f0 != a.f0) = false := by simpa using t0
    have Q0 := Aside0.mk q0
    clear t0
    by_cases t1 : x.f1 = a.f1
    · have q1 : (x.f1 == a.f1) = true := by simpa using t1
      have p1 : (x.f1 != a.f1) = false := by simpa using t1
      have Q1 := Aside0.mk q1
      clear t1
      have HV : Aside0 (lk_same a x = true) := ⟨by unfold lk_same; rw [Q0.out, Q1.out]; rfl⟩
      go_enter Try.func105, Try.ntmps105
      go_wp2_with (first | ((with_reducible refine gate_dst (N := 2) rfl ?_); refine box_event ?hg (N := 2) ?hd (cs := #[.int .i64 x.f0, .int .i64 x.f1, .int .i64 x.f2]) (t := 61) ?hr ?_; (case hd => rfl); (case hg => rfl); (case hr => first | (go_simp; done) | (go_simp; rfl)); intro gw hg w1 hbox hb1; have hcgw_0 : w1.cell? ⟨gw, 0, none⟩ = some (.int .i64 x.f0) := (blk_cell hbox 0).trans rfl; have hcgw_1 : w1.cell? ⟨gw, 1, none⟩ = some (.int .i64 x.f1) := (blk_cell hbox 1).trans rfl; have hcgw_2 : w1.cell? ⟨gw, 2, none⟩ = some (.int .i64 x.f2) := (blk_cell hbox 2).trans rfl; have HBw1 := Aside0.mk hb1; replace ha0 := pw_cell_below HBw1.out ha0; replace ha1 := pw_cell_below HBw1.out ha1; replace ha2 := pw_cell_below HBw1.out ha2; clear hbox hb1 hg))
      go_ret
      exact ⟨by rw [HV.out]; rfl, below_step HB.out HBw1.out⟩
    · have q1 : (x.f1 == a.f1) = false := by simpa using t1
      have p1 : (x.f1 != a.f1) = true := by simpa using t1
      have Q1 := Aside0.mk q1
      clear t1
      have HV : Aside0 (lk_same a x = false) := ⟨by unfold lk_same; rw [Q0.out, Q1.out]; rfl⟩
      go_enter Try.func105, Try.ntmps105
      go_wp2_with (first | ((with_reducible refine gate_dst (N := 2) rfl ?_); refine box_event ?hg (N := 2) ?hd (cs := #[.int .i64 x.f0, .int .i64 x.f1, .int .i64 x.f2]) (t := 61) ?hr ?_; (case hd => rfl); (case hg => rfl); (case hr => first | (go_simp; done) | (go_simp; rfl)); intro gw hg w1 hbox hb1; have hcgw_0 : w1.cell? ⟨gw, 0, none⟩ = some (.int .i64 x.f0) := (blk_cell hbox 0).trans rfl; have hcgw_1 : w1.cell? ⟨gw, 1, none⟩ = some (.int .i64 x.f1) := (blk_cell hbox 1).trans rfl; have hcgw_2 : w1.cell? ⟨gw, 2, none⟩ = some (.int .i64 x.f2) := (blk_cell hbox 2).trans rfl; have HBw1 := Aside0.mk hb1; replace ha0 := pw_cell_below HBw1.out ha0; replace ha1 := pw_cell_below HBw1.out ha1; replace ha2 := pw_cell_below HBw1.out ha2; clear hbox hb1 hg))
      go_ret
      exact ⟨by rw [HV.out]; rfl, below_step HB.out HBw1.out⟩
  · have q0 : (x.f0 == a.f0) = false := by simpa using t0
    have p0 : (x.f0 != a.f0) = true := by simpa using t0
    have Q0 := Aside0.mk q0
    clear t0
    have HV : Aside0 (lk_same a x = false) := ⟨by unfold lk_same; rw [Q0.out]; rfl⟩
    go_enter Try.func105, Try.ntmps105
    go_wp2_with (first | ((with_reducible refine gate_dst (N := 2) rfl ?_); refine box_event ?hg (N := 2) ?hd (cs := #[.int .i64 x.f0, .int .i64 x.f1, .int .i64 x.f2]) (t := 61) ?hr ?_; (case hd => rfl); (case hg => rfl); (case hr => first | (go_simp; done) | (go_simp; rfl)); intro gw hg w1 hbox hb1; have hcgw_0 : w1.cell? ⟨gw, 0, none⟩ = some (.int .i64 x.f0) := (blk_cell hbox 0).trans rfl; have hcgw_1 : w1.cell? ⟨gw, 1, none⟩ = some (.int .i64 x.f1) := (blk_cell hbox 1).trans rfl; have hcgw_2 : w1.cell? ⟨gw, 2, none⟩ = some (.int .i64 x.f2) := (blk_cell hbox 2).trans rfl; have HBw1 := Aside0.mk hb1; replace ha0 := pw_cell_below HBw1.out ha0; replace ha1 := pw_cell_below HBw1.out ha1; replace ha2 := pw_cell_below HBw1.out ha2; clear hbox hb1 hg))
    go_ret
    exact ⟨by rw [HV.out]; rfl, below_step HB.out HBw1.out⟩
set_option maxHeartbeats 8000000 in
set_option maxRecDepth 100000 in
theorem ws_each_who (W0 W : World) (gb : Nat) (who : Int) (x : LA) (cs : List Value) (h0 : W0.cell? ⟨gb, 0, none⟩ = some (.int .i64 who)) (hb : Below W0.heap.size W0 W) (hK : Kd.K k61 W x cs) :
    Calls Try.prog 106 (#[.agg cs.toArray] ++ #[.pointer (some ⟨gb, 0, none⟩)]) W fun e w' => e = .returned (.bool (x.f0 == who)) ∧ Below W0.heap.size W0 w' := by
  obtain ⟨_, _, rfl, rfl, _, _, rfl, rfl, rfl⟩ := hK
  have ha0 := pw_cell_below hb h0
  have HB := Aside0.mk hb
  clear hb h0
  have hu61 := Try.underlying61
  show Calls Try.prog 106 #[.agg #[.int .i64 x.f0, .int .i64 x.f1, .int .i64 x.f2], .pointer (some ⟨gb, 0, none⟩)] W _
  go_enter Try.func106, Try.ntmps106
  go_wp2_with (first | ((with_reducible refine gate_dst (N := 2) rfl ?_); refine box_event ?hg (N := 2) ?hd (cs := #[.int .i64 x.f0, .int .i64 x.f1, .int .i64 x.f2]) (t := 61) ?hr ?_; (case hd => rfl); (case hg => rfl); (case hr => first | (go_simp; done) | (go_simp; rfl)); intro gw hg w1 hbox hb1; have hcgw_0 : w1.cell? ⟨gw, 0, none⟩ = some (.int .i64 x.f0) := (blk_cell hbox 0).trans rfl; have hcgw_1 : w1.cell? ⟨gw, 1, none⟩ = some (.int .i64 x.f1) := (blk_cell hbox 1).trans rfl; have hcgw_2 : w1.cell? ⟨gw, 2, none⟩ = some (.int .i64 x.f2) := (blk_cell hbox 2).trans rfl; have HBw1 := Aside0.mk hb1; replace ha0 := pw_cell_below HBw1.out ha0; clear hbox hb1 hg))
  go_ret
  exact ⟨rfl, below_step HB.out HBw1.out⟩
theorem ws.clip (A0 : Option Addr) (n c : Nat) (w : World) (hn : n ≤ c) :
    Calls Try.prog 75 #[.slice A0 n c] w fun e w' => e = .returned (.slice A0 n n) ∧ w' = w := by
  have hu51 := Try.underlying51
  have h0 : decide ((0 : Int) ≤ (n : Int)) = true := decide_eq_true (by omega)
  have h1 : decide ((n : Int) ≤ (c : Int)) = true := decide_eq_true (by omega)
  have h2 : decide ((n : Int) ≤ (n : Int)) = true := decide_eq_true (by omega)
  go_enter Try.func75, Try.ntmps75
  go_wp2
  go_ret
  exact ⟨rfl, rfl⟩
def ws_C (w : World) (A : Option Addr) (l : List LA) : Prop := Kd.C k61 w A l.length l ∧ ∀ ad, A = some ad → 0 < l.length → ∃ cells, w.heap[ad.block]? = some (.cells cells 61 (0, 0))
theorem ws_add_block (a : Addr) (n : Nat) : (a.add n).block = a.block := by unfold Addr.add; split <;> rfl
theorem cell_blk {w w1 : World} {a : Addr} {v : Value} (h : w1.heap[a.block]? = w.heap[a.block]?) (hc : w.cell? a = some v) : w1.cell? a = some v := by
  unfold World.cell? at hc ⊢
  rw [h]
  exact hc
theorem ws_C.of_blk {w W : World} {A : Option Addr} {l : List LA} (h : ws_C w A l) (he : ∀ ad, A = some ad → 0 < l.length → W.heap[ad.block]? = w.heap[ad.block]?) : ws_C W A l := by
  refine ⟨⟨rfl, h.1.2.1, fun hp => ?_⟩, fun ad hA hp => ?_⟩
  · obtain ⟨ad, hA, hc⟩ := h.1.2.2 hp
    refine ⟨ad, hA, fun j p hj => ?_⟩
    obtain ⟨cs, hcl, hK, hcell⟩ := hc j p hj
    obtain ⟨_, _, rfl, rfl, _, _, rfl, rfl, rfl⟩ := hK
    refine ⟨_, rfl, k61_mk _ p, fun t u ht => ?_⟩
    have h_ := hcell t u ht
    refine cell_blk ?_ h_
    rw [ws_add_block]
    exact he ad hA hp
  · obtain ⟨cells, hc⟩ := h.2 ad hA hp
    exact ⟨cells, (he ad hA hp).trans hc⟩
theorem ws_C.below {w W : World} {A : Option Addr} {l : List LA} (h : ws_C w A l) (hb : Below w.heap.size w W) : ws_C W A l := h.of_blk (fun ad hA hp => by
  obtain ⟨cells, hc⟩ := h.2 ad hA hp
  exact hb.block _ (blk_lt hc))
theorem ws_C.keep {w W : World} {A : Option Addr} {l : List LA} (h : ws_C w A l) {g t : Nat} {cs : Array Value} (hg : w.heap[g]? = some (.cells cs t (0, 0))) (ht : t ≠ 61) (hk : KeepBut w W g none) : ws_C W A l := h.of_blk (fun ad hA hp => by
  obtain ⟨cells, hc⟩ := h.2 ad hA hp
  exact hk.2 _ (blk_lt hc) (blk_ne hc hg (Ne.symm ht)) (by simp))
theorem ws_C.set {w : World} {A : Option Addr} {l : List LA} (h : ws_C w A l) {g t : Nat} {cs : Array Value} (hg : w.heap[g]? = some (.cells cs t (0, 0))) (ht : t ≠ 61) (j : Nat) (u : Value) : ws_C (w.setCell ⟨g, j, none⟩ u) A l := h.keep hg ht ((KeepBut.refl _ _ _).set_ j u)
theorem ws_C.of_R {w : World} {base n c : Nat} {ok : Nat → Prop} {A : Option Addr} {l : List LA} (h : Kd.R k61 61 w base ok (.slice A n c) l) : ws_C w A l :=
  ⟨(Kd.R_reads' h).2.2, fun ad hA hp => by subst hA; exact Kd.R_typed h ad.block (by simp [Value.ownBlock])⟩
theorem ws_C.C {w : World} {A : Option Addr} {l : List LA} (h : ws_C w A l) : Kd.C k61 w A l.length l := h.1
theorem ws_nilC (w : World) (A : Option Addr) : Kd.C k61 w A ([] : List LA).length [] := ⟨rfl, Nat.zero_le _, fun h_ => absurd h_ (Nat.lt_irrefl 0)⟩
theorem ws_C.nil (w : World) (A : Option Addr) : ws_C w A [] := ⟨⟨rfl, Nat.zero_le _, fun h_ => absurd h_ (Nat.lt_irrefl 0)⟩, fun _ _ h => absurd h (Nat.lt_irrefl 0)⟩
theorem cell_of_block {w w1 : World} {g j : Nat} {v : Value} (h : w1.heap[g]? = w.heap[g]?) (hc : w.cell? ⟨g, j, none⟩ = some v) : w1.cell? ⟨g, j, none⟩ = some v := by
  unfold World.cell? at hc ⊢
  rw [h]
  exact hc
def ws_g4_T : Bool × List (List Nat × List Nat) := (true, [([], []), ([], []), ([1], [1]), ([2], [2]), ([3], [3]), ([], []), ([5], [5]), ([4, 6], [4, 6]), ([7, 7], [7]), ([0, 0, 1, 2, 3, 4, 5, 6, 7, 8], [0]), ([9, 0, 1, 2, 3, 4, 5, 6, 7, 8], [9]), ([10, 8, 8, 0, 1, 2, 3, 4, 5, 6, 7, 8], [8, 10])])
def ws_g4_B : List Nat := [0, 0, 2, 6, 14, 0, 32, 126, 254, 511, 1023, 2047]
theorem ws_g4_tab : rtab .any (opsOf Try.f74 4) = ws_g4_T := by kernel_rfl
theorem ws_g4_bits : waitsOk ws_g4_T.2 ws_g4_B = true := by kernel_rfl
set_option maxHeartbeats 8000000 in
set_option maxRecDepth 100000 in
theorem ws_grant (gb : Nat) (A0 : Option Addr) (c0 : Nat) (h : List LA) (A1 : Option Addr) (c1 : Nat) (a : LA) (base : Nat) (w0 w : World) (hB : Below base w0 w) (hbase : base ≤ w.heap.size) (hgb : base ≤ gb) (hlen : h.length ≤ 1000)
    (hbox : w.heap[gb]? = some (.cells #[.slice A0 h.length c0, .slice A1 0 c1] 53 (0, 0))) (hR : Kd.R k61 61 w base (fun _ => True) (.slice A0 h.length c0) h) (hno : h.any (lk_same a) = false) :
    Calls Try.prog 74 #[.pointer (some ⟨gb, 0, none⟩), .agg #[.int .i64 a.f0, .int .i64 a.f1, .int .i64 a.f2]] w fun e w' => e = .returned (.tuple #[]) ∧ (∃ A c, w'.heap[gb]? = some (.cells #[.slice A (h ++ [a]).length c, .slice A1 0 c1] 53 (0, 0)) ∧ ws_C w' A (h ++ [a]) ∧ (h ++ [a]).length ≤ c) ∧ Below base w0 w' ∧ KeepBut w w' gb (Value.slice A0 h.length c0).ownBlock := by
  have hu61 := Try.underlying61
  have hu53 := Try.underlying53
  have hu51 := Try.underlying51
  have hg0 : w.cell? ⟨gb, 0, none⟩ = some (.slice A0 h.length c0) := (blk_cell hbox 0).trans rfl
  have HG0 := Aside0.mk hg0
  have HR := Aside0.mk hR
  have HB := Aside0.mk hB
  have HBX := Aside0.mk hbox
  have HBS := Aside0.mk hbase
  have HGB := Aside0.mk hgb
  have HLE := Aside0.mk hlen
  have hidx : Aside0 (idxFrom (lk_same a) h 0 = -1) := ⟨idx_miss (lk_same a) h 0 (fun j hj => by
    have := List.any_eq_false.1 hno h[j] (List.getElem_mem hj)
    simpa using this)⟩
  have HI : Aside0 (∀ (W : World) (gv : Nat), Below w.heap.size w W → W.cell? ⟨gv, 0, none⟩ = some (.int .i64 a.f0) → W.cell? ⟨gv, 1, none⟩ = some (.int .i64 a.f1) → W.cell? ⟨gv, 2, none⟩ = some (.int .i64 a.f2) → Calls Try.prog 100 #[.slice A0 h.length c0, .func (.func 105) #[] #[.pointer (some ⟨gv, 0, none⟩)]] W fun e w' => e = .returned (.int .i64 (-1)) ∧ Below W.heap.size W w') := ⟨fun W gv hW h0 h1 h2 => by
    have k_ := idx100.calls (lk_same a) 105 #[.pointer (some ⟨gv, 0, none⟩)] (enters_own Try.func105 (by kernel_rfl) rfl) A0 c0 h W (Kd.C_below (Kd.R_reads' HR.out).2.2 hW) (fun W' x cs hx hb hK => ws_each_same W W' gv a x cs h0 h1 h2 hb hK)
    rw [hidx.out] at k_
    exact k_⟩
  have hn0 : ((h.length : Int) ≤ 1000) := by omega
  clear hR hB hbox hbase hgb hno hg0 hlen
  have hg0 := HG0.out
  go_enter Try.func74, Try.ntmps74
  go_wp2_with (first | ((with_reducible refine gate_dst (N := 3) rfl ?_); refine box_event ?hg (N := 3) ?hd (cs := #[.int .i64 a.f0, .int .i64 a.f1, .int .i64 a.f2]) (t := 61) ?hr ?_; (case hd => rfl); (case hg => rfl); (case hr => first | (go_simp; done) | (go_simp; rfl)); intro gv hggv w1 hbox hb1; have hcgv_0 : w1.cell? ⟨gv, 0, none⟩ = some (.int .i64 a.f0) := (blk_cell hbox 0).trans rfl; have hcgv_1 : w1.cell? ⟨gv, 1, none⟩ = some (.int .i64 a.f1) := (blk_cell hbox 1).trans rfl; have hcgv_2 : w1.cell? ⟨gv, 2, none⟩ = some (.int .i64 a.f2) := (blk_cell hbox 2).trans rfl; have HBw1 := Aside0.mk hb1; replace hg0 := pw_cell_below HBw1.out hg0; have HGV : Aside0 (gv = w.heap.size) := ⟨hggv⟩; clear hbox hb1 hggv) | (go_at_call 100; (with_reducible refine (HI.out _ gv HBw1.out hcgv_0 hcgv_1 hcgv_2).mono ?_); rintro e w2 ⟨rfl, hb2⟩; have HB2 := Aside0.mk hb2; clear hb2))
  have HB12 := Aside0.mk (below_step HBw1.out HB2.out)
  have HS0 : Aside0 (w2.cell? ⟨gb, 0, none⟩ = some (.slice A0 h.length c0) ∧ w2.cell? ⟨gv, 0, none⟩ = some (.int .i64 a.f0) ∧ w2.cell? ⟨gv, 1, none⟩ = some (.int .i64 a.f1) ∧ w2.cell? ⟨gv, 2, none⟩ = some (.int .i64 a.f2) ∧ w2.heap[gb]? = some (.cells #[.slice A0 h.length c0, .slice A1 0 c1] 53 (0, 0))) := ⟨pw_cell_below HB2.out hg0, pw_cell_below HB2.out hcgv_0, pw_cell_below HB2.out hcgv_1, pw_cell_below HB2.out hcgv_2, blk_below HBX.out HB12.out⟩
  have HGL : Aside0 (gb < w.heap.size) := ⟨blk_lt HBX.out⟩
  clear hg0 hcgv_0 hcgv_1 hcgv_2
  refine start_ (n := 12) (S := (fun w' => w'.cell? ⟨gb, 0, none⟩ = some (.slice A0 h.length c0) ∧ w'.cell? ⟨gv, 0, none⟩ = some (.int .i64 a.f0) ∧ w'.cell? ⟨gv, 1, none⟩ = some (.int .i64 a.f1) ∧ w'.cell? ⟨gv, 2, none⟩ = some (.int .i64 a.f2) ∧ w'.heap[gb]? = some (.cells #[.slice A0 h.length c0, .slice A1 0 c1] 53 (0, 0)))) (ds := [11]) #[false, false, false, false, false, false, false, false, false, false, false, false] (by kernel_rfl) rfl rfl HS0.out (fun hHeld => ?_); refine with_tabW ws_g4_tab ws_g4_bits (fun HT_ HW_ => ?_)
  have HB9 : Aside0 (Below w.heap.size w w2.drew) := ⟨below_drew1 HB12.out⟩
  generalize w2.drew = w9 at hHeld HB9 ⊢
  refine pure_ (i := 0) (N := some 20) (v := ?_) (a' := ?_) #[true, false, false, false, false, false, false, false, false, false, false, false] rfl rfl (any_of HT_.out (by kernel_rfl)) (fun _ _ _ h => h) (Or.inl ⟨by rfl, ?_⟩) ?_ ?_
  rotate_left
  · intro w'
    go_simp
    with_reducible rfl
  rotate_left
  · simp only [Act.put, List.setIfInBounds_toArray, List.set_cons_zero, List.set_cons_succ, i64_w, i32_w]
    rfl
  refine pure_ (i := 1) (N := some 21) (v := ?_) (a' := ?_) #[true, true, false, false, false, false, false, false, false, false, false, false] rfl rfl (any_of HT_.out (by kernel_rfl)) (fun _ _ _ h => h) (Or.inl ⟨by rfl, ?_⟩) ?_ ?_
  rotate_left
  · intro w'
    go_simp
    with_reducible rfl
  rotate_left
  · simp only [Act.put, List.setIfInBounds_toArray, List.set_cons_zero, List.set_cons_succ, i64_w, i32_w]
    rfl
  refine pure_ (i := 2) (N := some 22) (v := ?_) (a' := ?_) #[true, true, true, false, false, false, false, false, false, false, false, false] rfl rfl (any_of HT_.out (by kernel_rfl)) (fun _ _ _ h => h) (Or.inl ⟨by rfl, ?_⟩) ?_ ?_
  rotate_left
  · intro w'
    go_simp
    with_reducible rfl
  rotate_left
  · simp only [Act.put, List.setIfInBounds_toArray, List.set_cons_zero, List.set_cons_succ, i64_w, i32_w]
    rfl
  refine pure_ (i := 3) (N := some 23) (v := ?_) (a' := ?_) #[true, true, true, true, false, false, false, false, false, false, false, false] rfl rfl (any_of HT_.out (by kernel_rfl)) (fun _ _ _ h => h) (Or.inl ⟨by rfl, ?_⟩) ?_ ?_
  rotate_left
  · intro w'
    go_simp
    with_reducible rfl
  rotate_left
  · simp only [Act.put, List.setIfInBounds_toArray, List.set_cons_zero, List.set_cons_succ, i64_w, i32_w]
    rfl
  refine take_ (i := 4) (N := some 24) (v := ?_) (a' := ?_) #[true, true, true, true, true, false, false, false, false, false, false, false] rfl rfl (take_ofW HT_.out HW_.out (by kernel_rfl)) (fun _ _ _ h => h) (Or.inl ⟨by rfl, ?_⟩) hHeld ?_ ?_
  rotate_left
  · rintro w' ⟨s0, s1, s2, s3, s4⟩
    go_simp
    with_reducible rfl
  rotate_left
  · simp only [Act.put, List.setIfInBounds_toArray, List.set_cons_zero, List.set_cons_succ, i64_w, i32_w]
    rfl
  refine take_ (i := 5) (N := some 25) (v := ?_) (a' := ?_) #[true, true, true, true, true, true, false, false, false, false, false, false] rfl rfl (take_ofW HT_.out HW_.out (by kernel_rfl)) (fun _ _ _ h => h) (Or.inl ⟨by rfl, ?_⟩) hHeld ?_ ?_
  rotate_left
  · rintro w' ⟨s0, s1, s2, s3, s4⟩
    go_simp
    with_reducible rfl
  rotate_left
  · simp only [Act.put, List.setIfInBounds_toArray, List.set_cons_zero, List.set_cons_succ, i64_w, i32_w]
    rfl
  refine one_ (i := 6) (N := some 26) #[true, true, true, true, true, true, true, false, false, false, false, false] rfl rfl (one_of HT_.out (by kernel_rfl)) (by decide) (fun K hK => ?_)
  refine Kd.R_lit_step k61 _ 61 ?hg (N := 26) ?hd (xs := [a]) (inner := [.int .i64 a.f0, .int .i64 a.f1, .int .i64 a.f2]) (ok := fun _ => True) (okp := fun _ => True) ?hr ?hp (fun _ hk => hk) trivial (Below.refl _ _) (Nat.le_refl _) (by simp) ?_; (case hd => rfl); (case hg => rfl); (case hr => first | (go_simp; done) | (go_simp; rfl)); (case hp => exact Reps.snoc (Reps.none _ _) (k61_mkM _ _ _ a) rfl)
  intro v5 w5 ho5 hb5 hg_ hnew_
  clear hg_ hnew_
  obtain ⟨A5, c5, e5⟩ := Kd.R_slice ho5
  have e5' : v5 = .slice A5 1 c5 := e5
  clear e5
  subst e5'
  have HO5 := Aside0.mk (Kd.R_reads' ho5).2.2
  have HB5 := Aside0.mk (below_step HB9.out hb5)
  refine hK.out _ _ ⟨pw_cell_below hb5 hHeld.1, pw_cell_below hb5 hHeld.2.1, pw_cell_below hb5 hHeld.2.2.1, pw_cell_below hb5 hHeld.2.2.2.1, blk_below hHeld.2.2.2.2 hb5⟩ (fun hHeld => ?_)
  clear ho5 hb5
  clear hK K
  refine norm_ (a' := ?_) ?_ ?_
  rotate_left
  · show Act.put _ (some 26) _ = _
    simp only [Act.put, List.setIfInBounds_toArray, List.set_cons_zero, List.set_cons_succ, i64_w, i32_w]
    rfl
  refine one_ (i := 7) (N := some 27) #[true, true, true, true, true, true, true, true, false, false, false, false] rfl rfl (one_of HT_.out (by kernel_rfl)) (by decide) (fun K hK => ?_)
  refine Kd.R_append_rows_step k61 (w0 := w0) base (by rfl) (.tmp 24) (.tmp 26) 51 61 (.agg #[(.int .i64 0), (.int .i64 0), (.int .i64 0)]) 24 rfl Try.underlying51 info61 rfl (by decide) (by omega) (.slice A0 h.length c0) h [a] A5 1 c5 (fun _ => True) (fun _ => False) rfl rfl (Kd.R_below HR.out HB5.out) HO5.out (fun _ _ hm => hm) (fun _ hm => hm.elim) (fun _ _ => trivial) (HB.out.trans (HB5.out.mono HBS.out)) (Nat.le_trans HBS.out (below_size HB5.out)) (by have := HLE.out; omega) ?_
  intro v6 w6 ho6 hb6 hg6 hat6
  obtain ⟨A6, c6, e6⟩ := Kd.R_slice ho6
  subst e6
  have HO6 := Aside0.mk ho6
  have HB6 := Aside0.mk hb6
  have HG6 := Aside0.mk hg6
  have hlt_ : ∀ k_, (Value.slice A0 h.length c0).ownBlock = some k_ → k_ < w.heap.size := Kd.R_lt HR.out
  have hne_gb : some gb ≠ (Value.slice A0 h.length c0).ownBlock := fun he_ => Kd.R_ne HR.out HBX.out (by decide) he_
  have hne_gv : some gv ≠ (Value.slice A0 h.length c0).ownBlock := fun he_ => by have := hlt_ gv he_.symm; have := HGV.out; omega
  have hgvl : gv < w5.heap.size := block_lt_of_cell (a := ⟨gv, 0, none⟩) hHeld.2.1
  have hgbl : gb < w5.heap.size := block_lt_of_cell (a := ⟨gb, 0, none⟩) hHeld.1
  refine hK.out _ _ ⟨cell_of_block (hg6.block gb hgbl hne_gb) hHeld.1, cell_of_block (hg6.block gv hgvl hne_gv) hHeld.2.1, cell_of_block (hg6.block gv hgvl hne_gv) hHeld.2.2.1, cell_of_block (hg6.block gv hgvl hne_gv) hHeld.2.2.2.1, blk_grown hHeld.2.2.2.2 hg6 hne_gb⟩ (fun hHeld => ?_)
  clear ho6 hb6 hg6 hat6 hlt_ hne_gb hne_gv hgvl hgbl
  clear hK K
  refine norm_ (a' := ?_) ?_ ?_
  rotate_left
  · show Act.put _ (some 27) _ = _
    simp only [Act.put, List.setIfInBounds_toArray, List.set_cons_zero, List.set_cons_succ, i64_w, i32_w]
    rfl
  refine one_ (i := 8) (N := some 28) #[true, true, true, true, true, true, true, true, true, false, false, false] rfl rfl (one_of HT_.out (by kernel_rfl)) (by decide) (fun K hK => ?_)
  refine goes_ Try.func75 (by kernel_rfl) rfl #[.slice A6 (h ++ [a]).length c6] (by rfl) rfl rfl (by (try simp only [List.map_toArray, List.map_cons, List.map_nil]); first | done | rfl) ?_
  with_reducible refine (ws.clip A6 (h ++ [a]).length c6 _ (Kd.R_reads' HO6.out).2.1).mono ?_
  rintro e w7 ⟨rfl, rfl⟩
  refine ⟨_, rfl, ?_⟩
  refine hK.out _ _ hHeld (fun hHeld => ?_)
  clear hK K
  refine norm_ (a' := ?_) ?_ ?_
  rotate_left
  · show Act.put _ (some 28) _ = _
    simp only [Act.put, List.setIfInBounds_toArray, List.set_cons_zero, List.set_cons_succ, i64_w, i32_w]
    rfl
  refine pure_ (i := 9) (N := some 29) (v := ?_) (a' := ?_) #[true, true, true, true, true, true, true, true, true, true, false, false] rfl rfl (any_of HT_.out (by kernel_rfl)) (fun _ _ _ h => h) (Or.inl ⟨by rfl, ?_⟩) ?_ ?_
  rotate_left
  · intro w'
    go_simp
    with_reducible rfl
  rotate_left
  · simp only [Act.put, List.setIfInBounds_toArray, List.set_cons_zero, List.set_cons_succ, i64_w, i32_w]
    rfl
  refine pure_ (i := 10) (N := some 30) (v := ?_) (a' := ?_) #[true, true, true, true, true, true, true, true, true, true, true, false] rfl rfl (any_of HT_.out (by kernel_rfl)) (fun _ _ _ h => h) (Or.inl ⟨by rfl, ?_⟩) ?_ ?_
  rotate_left
  · intro w'
    go_simp
    with_reducible rfl
  rotate_left
  · simp only [Act.put, List.setIfInBounds_toArray, List.set_cons_zero, List.set_cons_succ, i64_w, i32_w]
    rfl
  refine last_ (i := 11) (N := none) #[true, true, true, true, true, true, true, true, true, true, true, true] rfl rfl (one_of HT_.out (by kernel_rfl)) (by decide) (fun K hK => ?_)
  obtain ⟨s0, s1, s2, s3, s4⟩ := hHeld
  have HS4 := Aside0.mk s4
  have hfz_ := blk_frozen s4 0
  refine skip_ (w1 := ?_) (by rfl) rfl ?_ ?_
  rotate_left
  · go_simp
    rfl
  refine hK.out _ _ ?_
  clear hK K
  refine done_ (done_of HT_.out (by kernel_rfl)) ?_
  try go_wp2
  refine bodyPost_end (results_none rfl _ _ _) rfl ?_
  refine ⟨rfl, ⟨A6, (h ++ [a]).length, blk_put HS4.out 0 _ (by simp), (ws_C.of_R HO6.out).set HS4.out (by decide) 0 _, Nat.le_refl _⟩, (HB6.out).setCell HGB.out _, ?_⟩
  refine KeepBut.set_ ?_ 0 _
  exact (KeepBut.of_below HB5.out gb _).trans (KeepBut.of_grown HG6.out gb) (Or.inl rfl)
end

section
/-! ### impl_LockAsk: function 30 -/
set_option maxHeartbeats 8000000 in
set_option maxRecDepth 100000 in
theorem ws_ask1 (A0 : Option Addr) (c0 : Nat) (h : List LA) (A1 : Option Addr) (c1 : Nat) (a : LA) (w : World) (hr0 : Kd.C k61 w A0 h.length h) (hc0 : h.length ≤ c0) (hlen : h.length ≤ 1000) (hall : lk_all h [] = true) (hok : lk_ok a = true) (hany : h.any (fun x => lk_cov x a) = true) :
    Calls Try.prog 30 #[.agg #[.slice A0 h.length c0, .slice A1 0 c1], .agg #[.int .i64 a.f0, .int .i64 a.f1, .int .i64 a.f2]] w fun e w' => ∃ (B0 : Option Addr) (b0 : Nat) (B1 : Option Addr) (b1 : Nat), e = .returned (.tuple #[.agg #[.slice B0 (h).length b0, .slice B1 0 b1], .bool true]) ∧ ws_C w' B0 (h) ∧ (h).length ≤ b0 ∧ Below w.heap.size w w' := by
  have hu61 := Try.underlying61
  have hu53 := Try.underlying53
  have hu51 := Try.underlying51
  have HR := Aside0.mk hr0
  have HC := Aside0.mk hc0
  have HLE := Aside0.mk hlen
  have HLO : Aside0 (impl_LocksOk.f h [] = some true) := ⟨congrArg some hall⟩
  have HOK : Aside0 (impl_Ask_ok.f a.f0 a.f1 a.f2 = some true) := ⟨(lk_ok_eq a).trans (congrArg some hok)⟩
  have HCP : Aside0 (impl_Locks_copy.f h [] = some (h, [])) := ⟨ws_copy h hlen⟩
  have hz : ∀ (W : World) (A : Option Addr), Kd.C k61 W A ([] : List LA).length [] := fun W A => ⟨rfl, Nat.zero_le _, fun h_ => absurd h_ (Nat.lt_irrefl 0)⟩
  have HZ := Aside0.mk hz
  have HH : Aside0 (∀ (W : World) (gv : Nat), Kd.C k61 W A0 h.length h → W.cell? ⟨gv, 0, none⟩ = some (.int .i64 a.f0) → W.cell? ⟨gv, 1, none⟩ = some (.int .i64 a.f1) → W.cell? ⟨gv, 2, none⟩ = some (.int .i64 a.f2) → Calls Try.prog 62 #[.slice A0 h.length c0, .func (.func 73) #[] #[.pointer (some ⟨gv, 0, none⟩)]] W fun e w' => e = .returned (.bool true) ∧ Below W.heap.size W w') := ⟨fun W gv hC h0 h1 h2 => by
    have k_ := has62.calls (fun x => lk_cov x a) 73 #[.pointer (some ⟨gv, 0, none⟩)] (enters_own Try.func73 (by kernel_rfl) rfl) A0 c0 h W hC (fun W' x cs hx hb hK => ws_each_cov W W' gv a x cs h0 h1 h2 hb hK)
    rw [hany] at k_
    exact k_⟩

  have HB := Aside0.mk (Below.refl w.heap.size w)
  have ST0 := True.intro
  clear hr0 hc0 hlen hall hok hany hz
  go_enter Try.func30, Try.ntmps30
  go_wp2_with (first | (have hck_ := ST7; clear hck_; go_at_call 62; (with_reducible refine (HH.out _ gv HR.out hc_gv_0 hc_gv_1 hc_gv_2).mono ?_); rintro e w8 ⟨rfl, hb_⟩; clear hc_gl_0 hc_gl_1 hc_gv_0 hc_gv_1 hc_gv_2 hc_gr_0 hc_gr_1 hc_go_0 hc_go_1; have n_ := Aside0.mk (blk_below BK_gl.out hb_); clear BK_gl; have BK_gl : Aside0 (w8.heap[gl]? = some (.cells #[.slice A0 h.length c0, .slice A1 0 c1] 53 (0, 0))) := n_; clear n_; have n_ := Aside0.mk (blk_below BK_gv.out hb_); clear BK_gv; have BK_gv : Aside0 (w8.heap[gv]? = some (.cells #[.int .i64 a.f0, .int .i64 a.f1, .int .i64 a.f2] 61 (0, 0))) := n_; clear n_; have n_ := Aside0.mk (blk_below BK_gr.out hb_); clear BK_gr; have BK_gr : Aside0 (w8.heap[gr]? = some (.cells #[.slice none 0 0, .slice none 0 0] 53 (0, 0))) := n_; clear n_; have n_ := Aside0.mk (blk_below BK_go.out hb_); clear BK_go; have BK_go : Aside0 (w8.heap[w5.heap.size]? = some (.cells #[.slice B0 h.length b0, .slice B1 0 b1] 53 (0, 0))) := n_; clear n_; have n_ := Aside0.mk (Kd.C_below HR.out hb_); clear HR; have HR := n_; clear n_; have n_ := Aside0.mk (Kd.R_below HO.out hb_); clear HO; have HO := n_; clear n_; have n_ := Aside0.mk (below_step HB.out hb_); clear HB; have HB := n_; clear n_; have hc_gl_0 : w8.cell? ⟨gl, 0, none⟩ = some (.slice A0 h.length c0) := (blk_cell BK_gl.out 0).trans rfl; have hc_gl_1 : w8.cell? ⟨gl, 1, none⟩ = some (.slice A1 0 c1) := (blk_cell BK_gl.out 1).trans rfl; have hc_gv_0 : w8.cell? ⟨gv, 0, none⟩ = some (.int .i64 a.f0) := (blk_cell BK_gv.out 0).trans rfl; have hc_gv_1 : w8.cell? ⟨gv, 1, none⟩ = some (.int .i64 a.f1) := (blk_cell BK_gv.out 1).trans rfl; have hc_gv_2 : w8.cell? ⟨gv, 2, none⟩ = some (.int .i64 a.f2) := (blk_cell BK_gv.out 2).trans rfl; have hc_gr_0 : w8.cell? ⟨gr, 0, none⟩ = some (.slice none 0 0) := (blk_cell BK_gr.out 0).trans rfl; have hc_gr_1 : w8.cell? ⟨gr, 1, none⟩ = some (.slice none 0 0) := (blk_cell BK_gr.out 1).trans rfl; have hc_go_0 : w8.cell? ⟨w5.heap.size, 0, none⟩ = some (.slice B0 h.length b0) := (blk_cell BK_go.out 0).trans rfl; have hc_go_1 : w8.cell? ⟨w5.heap.size, 1, none⟩ = some (.slice B1 0 b1) := (blk_cell BK_go.out 1).trans rfl; clear hb_; have ST8 := True.intro; have hf_gr_0 := blk_frozen BK_gr.out 0; have hf_gr_1 := blk_frozen BK_gr.out 1) | (have hck_ := ST6; clear hck_; go_at_call 72; (with_reducible refine (ws_waits A0 c0 h A1 c1 a.f0 _).mono ?_); rintro e w7 ⟨rfl, hb_⟩; clear hc_gl_0 hc_gl_1 hc_gv_0 hc_gv_1 hc_gv_2 hc_gr_0 hc_gr_1 hc_go_0 hc_go_1; have n_ := Aside0.mk (blk_below BK_gl.out hb_); clear BK_gl; have BK_gl : Aside0 (w7.heap[gl]? = some (.cells #[.slice A0 h.length c0, .slice A1 0 c1] 53 (0, 0))) := n_; clear n_; have n_ := Aside0.mk (blk_below BK_gv.out hb_); clear BK_gv; have BK_gv : Aside0 (w7.heap[gv]? = some (.cells #[.int .i64 a.f0, .int .i64 a.f1, .int .i64 a.f2] 61 (0, 0))) := n_; clear n_; have n_ := Aside0.mk (blk_below BK_gr.out hb_); clear BK_gr; have BK_gr : Aside0 (w7.heap[gr]? = some (.cells #[.slice none 0 0, .slice none 0 0] 53 (0, 0))) := n_; clear n_; have n_ := Aside0.mk (blk_below BK_go.out hb_); clear BK_go; have BK_go : Aside0 (w7.heap[w5.heap.size]? = some (.cells #[.slice B0 h.length b0, .slice B1 0 b1] 53 (0, 0))) := n_; clear n_; have n_ := Aside0.mk (Kd.C_below HR.out hb_); clear HR; have HR := n_; clear n_; have n_ := Aside0.mk (Kd.R_below HO.out hb_); clear HO; have HO := n_; clear n_; have n_ := Aside0.mk (below_step HB.out hb_); clear HB; have HB := n_; clear n_; have hc_gl_0 : w7.cell? ⟨gl, 0, none⟩ = some (.slice A0 h.length c0) := (blk_cell BK_gl.out 0).trans rfl; have hc_gl_1 : w7.cell? ⟨gl, 1, none⟩ = some (.slice A1 0 c1) := (blk_cell BK_gl.out 1).trans rfl; have hc_gv_0 : w7.cell? ⟨gv, 0, none⟩ = some (.int .i64 a.f0) := (blk_cell BK_gv.out 0).trans rfl; have hc_gv_1 : w7.cell? ⟨gv, 1, none⟩ = some (.int .i64 a.f1) := (blk_cell BK_gv.out 1).trans rfl; have hc_gv_2 : w7.cell? ⟨gv, 2, none⟩ = some (.int .i64 a.f2) := (blk_cell BK_gv.out 2).trans rfl; have hc_gr_0 : w7.cell? ⟨gr, 0, none⟩ = some (.slice none 0 0) := (blk_cell BK_gr.out 0).trans rfl; have hc_gr_1 : w7.cell? ⟨gr, 1, none⟩ = some (.slice none 0 0) := (blk_cell BK_gr.out 1).trans rfl; have hc_go_0 : w7.cell? ⟨w5.heap.size, 0, none⟩ = some (.slice B0 h.length b0) := (blk_cell BK_go.out 0).trans rfl; have hc_go_1 : w7.cell? ⟨w5.heap.size, 1, none⟩ = some (.slice B1 0 b1) := (blk_cell BK_go.out 1).trans rfl; clear hb_; have ST7 := True.intro) | (have hck_ := ST5; clear hck_; go_at_call 61; (with_reducible refine (impl_Ask_ok.calls a.f0 a.f1 a.f2 true _ HOK.out).mono ?_); rintro e w6 ⟨rfl, hb_⟩; have hbx_ := below_step (below_alloc (Below.refl w5.heap.size w5) (.cells #[.slice B0 h.length b0, .slice B1 0 b1] 53)) hb_; have GE_go : Aside0 (w.heap.size ≤ w5.heap.size) := ⟨below_size HB.out⟩; have NE_gl_go : Aside0 (gl ≠ w5.heap.size) := ⟨Nat.ne_of_lt (blk_lt BK_gl.out)⟩; have NE_go_gl : Aside0 (w5.heap.size ≠ gl) := ⟨Nat.ne_of_gt (blk_lt BK_gl.out)⟩; have NE_gv_go : Aside0 (gv ≠ w5.heap.size) := ⟨Nat.ne_of_lt (blk_lt BK_gv.out)⟩; have NE_go_gv : Aside0 (w5.heap.size ≠ gv) := ⟨Nat.ne_of_gt (blk_lt BK_gv.out)⟩; have NE_gr_go : Aside0 (gr ≠ w5.heap.size) := ⟨Nat.ne_of_lt (blk_lt BK_gr.out)⟩; have NE_go_gr : Aside0 (w5.heap.size ≠ gr) := ⟨Nat.ne_of_gt (blk_lt BK_gr.out)⟩; have BKn_ := Aside0.mk (blk_below (heap_alloc_new w5 (.cells #[.slice B0 h.length b0, .slice B1 0 b1] 53)) hb_); clear hc_gl_0 hc_gl_1 hc_gv_0 hc_gv_1 hc_gv_2 hc_gr_0 hc_gr_1; clear ha_gl_0 ha_gl_1 ha_gv_0 ha_gv_1 ha_gv_2 ha_gr_0 ha_gr_1; have n_ := Aside0.mk (blk_below BK_gl.out hbx_); clear BK_gl; have BK_gl : Aside0 (w6.heap[gl]? = some (.cells #[.slice A0 h.length c0, .slice A1 0 c1] 53 (0, 0))) := n_; clear n_; have n_ := Aside0.mk (blk_below BK_gv.out hbx_); clear BK_gv; have BK_gv : Aside0 (w6.heap[gv]? = some (.cells #[.int .i64 a.f0, .int .i64 a.f1, .int .i64 a.f2] 61 (0, 0))) := n_; clear n_; have n_ := Aside0.mk (blk_below BK_gr.out hbx_); clear BK_gr; have BK_gr : Aside0 (w6.heap[gr]? = some (.cells #[.slice none 0 0, .slice none 0 0] 53 (0, 0))) := n_; clear n_; have n_ := Aside0.mk (Kd.C_below HR.out hbx_); clear HR; have HR := n_; clear n_; have n_ := Aside0.mk (Kd.R_below HO.out hbx_); clear HO; have HO := n_; clear n_; have n_ := Aside0.mk (below_step HB.out hbx_); clear HB; have HB := n_; clear n_; have BK_go : Aside0 (w6.heap[w5.heap.size]? = some (.cells #[.slice B0 h.length b0, .slice B1 0 b1] 53 (0, 0))) := BKn_; clear BKn_; clear hbx_; have hc_gl_0 : w6.cell? ⟨gl, 0, none⟩ = some (.slice A0 h.length c0) := (blk_cell BK_gl.out 0).trans rfl; have hc_gl_1 : w6.cell? ⟨gl, 1, none⟩ = some (.slice A1 0 c1) := (blk_cell BK_gl.out 1).trans rfl; have hc_gv_0 : w6.cell? ⟨gv, 0, none⟩ = some (.int .i64 a.f0) := (blk_cell BK_gv.out 0).trans rfl; have hc_gv_1 : w6.cell? ⟨gv, 1, none⟩ = some (.int .i64 a.f1) := (blk_cell BK_gv.out 1).trans rfl; have hc_gv_2 : w6.cell? ⟨gv, 2, none⟩ = some (.int .i64 a.f2) := (blk_cell BK_gv.out 2).trans rfl; have hc_gr_0 : w6.cell? ⟨gr, 0, none⟩ = some (.slice none 0 0) := (blk_cell BK_gr.out 0).trans rfl; have hc_gr_1 : w6.cell? ⟨gr, 1, none⟩ = some (.slice none 0 0) := (blk_cell BK_gr.out 1).trans rfl; have hc_go_0 : w6.cell? ⟨w5.heap.size, 0, none⟩ = some (.slice B0 h.length b0) := (blk_cell BK_go.out 0).trans rfl; have hc_go_1 : w6.cell? ⟨w5.heap.size, 1, none⟩ = some (.slice B1 0 b1) := (blk_cell BK_go.out 1).trans rfl; clear hb_; have ST6 := True.intro) | (have hck_ := ST4; clear hck_; go_at_call 71; refine calls_of_args (args' := #[.agg #[.slice A0 h.length c0, .slice A1 ([] : List LA).length c1]]) (by rfl) ?_; have HB0 := HB; (with_reducible refine (impl_Locks_copy.calls A0 c0 h A1 c1 [] h [] _ HR.out HC.out (HZ.out _ _) (Nat.zero_le _) HCP.out).mono ?_); rintro e w5 ⟨v0, v1, rfl, hs0_, hs1_, hb_⟩; clear hc_gl_0 hc_gl_1 hc_gv_0 hc_gv_1 hc_gv_2 hc_gr_0 hc_gr_1; have n_ := Aside0.mk (blk_below BK_gl.out hb_); clear BK_gl; have BK_gl : Aside0 (w5.heap[gl]? = some (.cells #[.slice A0 h.length c0, .slice A1 0 c1] 53 (0, 0))) := n_; clear n_; have n_ := Aside0.mk (blk_below BK_gv.out hb_); clear BK_gv; have BK_gv : Aside0 (w5.heap[gv]? = some (.cells #[.int .i64 a.f0, .int .i64 a.f1, .int .i64 a.f2] 61 (0, 0))) := n_; clear n_; have n_ := Aside0.mk (blk_below BK_gr.out hb_); clear BK_gr; have BK_gr : Aside0 (w5.heap[gr]? = some (.cells #[.slice none 0 0, .slice none 0 0] 53 (0, 0))) := n_; clear n_; have n_ := Aside0.mk (Kd.C_below HR.out hb_); clear HR; have HR := n_; clear n_; have n_ := Aside0.mk (below_step HB.out hb_); clear HB; have HB := n_; clear n_; obtain ⟨B0, b0, e0_⟩ := Kd.R_slice hs0_; subst e0_; obtain ⟨B1, b1, e1_⟩ := Kd.R_slice hs1_; have e1' : v1 = .slice B1 0 b1 := e1_; subst e1'; have HO := Aside0.mk (Kd.R_lower (Kd.R_mono (ok' := fun _ => True) hs0_ (fun _ _ => True.intro)) (below_size HB0.out)); clear e1_ hs0_ hs1_ HB0; have hc_gl_0 : w5.cell? ⟨gl, 0, none⟩ = some (.slice A0 h.length c0) := (blk_cell BK_gl.out 0).trans rfl; have hc_gl_1 : w5.cell? ⟨gl, 1, none⟩ = some (.slice A1 0 c1) := (blk_cell BK_gl.out 1).trans rfl; have hc_gv_0 : w5.cell? ⟨gv, 0, none⟩ = some (.int .i64 a.f0) := (blk_cell BK_gv.out 0).trans rfl; have hc_gv_1 : w5.cell? ⟨gv, 1, none⟩ = some (.int .i64 a.f1) := (blk_cell BK_gv.out 1).trans rfl; have hc_gv_2 : w5.cell? ⟨gv, 2, none⟩ = some (.int .i64 a.f2) := (blk_cell BK_gv.out 2).trans rfl; have hc_gr_0 : w5.cell? ⟨gr, 0, none⟩ = some (.slice none 0 0) := (blk_cell BK_gr.out 0).trans rfl; have hc_gr_1 : w5.cell? ⟨gr, 1, none⟩ = some (.slice none 0 0) := (blk_cell BK_gr.out 1).trans rfl; clear hb_; have ST5 := True.intro; have ha_gl_0 : ∀ o, (w5.alloc o).cell? ⟨gl, 0, none⟩ = some (.slice A0 h.length c0) := fun o => pw_cell_below (below_alloc (Below.refl _ _) o) hc_gl_0; have ha_gl_1 : ∀ o, (w5.alloc o).cell? ⟨gl, 1, none⟩ = some (.slice A1 0 c1) := fun o => pw_cell_below (below_alloc (Below.refl _ _) o) hc_gl_1; have ha_gv_0 : ∀ o, (w5.alloc o).cell? ⟨gv, 0, none⟩ = some (.int .i64 a.f0) := fun o => pw_cell_below (below_alloc (Below.refl _ _) o) hc_gv_0; have ha_gv_1 : ∀ o, (w5.alloc o).cell? ⟨gv, 1, none⟩ = some (.int .i64 a.f1) := fun o => pw_cell_below (below_alloc (Below.refl _ _) o) hc_gv_1; have ha_gv_2 : ∀ o, (w5.alloc o).cell? ⟨gv, 2, none⟩ = some (.int .i64 a.f2) := fun o => pw_cell_below (below_alloc (Below.refl _ _) o) hc_gv_2; have ha_gr_0 : ∀ o, (w5.alloc o).cell? ⟨gr, 0, none⟩ = some (.slice none 0 0) := fun o => pw_cell_below (below_alloc (Below.refl _ _) o) hc_gr_0; have ha_gr_1 : ∀ o, (w5.alloc o).cell? ⟨gr, 1, none⟩ = some (.slice none 0 0) := fun o => pw_cell_below (below_alloc (Below.refl _ _) o) hc_gr_1) | (have hck_ := ST3; clear hck_; go_at_call 27; refine calls_of_args (args' := #[.agg #[.slice A0 h.length c0, .slice A1 ([] : List LA).length c1]]) (by rfl) ?_; (with_reducible refine (impl_LocksOk.calls A0 c0 h A1 c1 [] true _ HR.out HC.out (HZ.out _ _) (Nat.zero_le _) HLO.out).mono ?_); rintro e w4 ⟨rfl, hb_⟩; clear hc_gl_0 hc_gl_1 hc_gv_0 hc_gv_1 hc_gv_2 hc_gr_0 hc_gr_1; have n_ := Aside0.mk (blk_below BK_gl.out hb_); clear BK_gl; have BK_gl : Aside0 (w4.heap[gl]? = some (.cells #[.slice A0 h.length c0, .slice A1 0 c1] 53 (0, 0))) := n_; clear n_; have n_ := Aside0.mk (blk_below BK_gv.out hb_); clear BK_gv; have BK_gv : Aside0 (w4.heap[gv]? = some (.cells #[.int .i64 a.f0, .int .i64 a.f1, .int .i64 a.f2] 61 (0, 0))) := n_; clear n_; have n_ := Aside0.mk (blk_below BK_gr.out hb_); clear BK_gr; have BK_gr : Aside0 (w4.heap[gr]? = some (.cells #[.slice none 0 0, .slice none 0 0] 53 (0, 0))) := n_; clear n_; have n_ := Aside0.mk (Kd.C_below HR.out hb_); clear HR; have HR := n_; clear n_; have n_ := Aside0.mk (below_step HB.out hb_); clear HB; have HB := n_; clear n_; have hc_gl_0 : w4.cell? ⟨gl, 0, none⟩ = some (.slice A0 h.length c0) := (blk_cell BK_gl.out 0).trans rfl; have hc_gl_1 : w4.cell? ⟨gl, 1, none⟩ = some (.slice A1 0 c1) := (blk_cell BK_gl.out 1).trans rfl; have hc_gv_0 : w4.cell? ⟨gv, 0, none⟩ = some (.int .i64 a.f0) := (blk_cell BK_gv.out 0).trans rfl; have hc_gv_1 : w4.cell? ⟨gv, 1, none⟩ = some (.int .i64 a.f1) := (blk_cell BK_gv.out 1).trans rfl; have hc_gv_2 : w4.cell? ⟨gv, 2, none⟩ = some (.int .i64 a.f2) := (blk_cell BK_gv.out 2).trans rfl; have hc_gr_0 : w4.cell? ⟨gr, 0, none⟩ = some (.slice none 0 0) := (blk_cell BK_gr.out 0).trans rfl; have hc_gr_1 : w4.cell? ⟨gr, 1, none⟩ = some (.slice none 0 0) := (blk_cell BK_gr.out 1).trans rfl; clear hb_; have ST4 := True.intro) | (have hck_ := ST2; clear hck_; (with_reducible refine gate_dst (N := 4) rfl ?_); refine box_event ?hg (N := 4) ?hd (cs := #[.slice none 0 0, .slice none 0 0]) (t := 53) ?hr ?_; (case hd => rfl); (case hg => rfl); (case hr => first | (go_simp; done) | (go_simp; rfl)); intro gr hg_ w3 hbox_ hb_; have GE_gr : Aside0 (w.heap.size ≤ gr) := ⟨by rw [hg_]; exact below_size HB.out⟩; have NE_gl_gr : Aside0 (gl ≠ gr) := ⟨by rw [hg_]; exact Nat.ne_of_lt (blk_lt BK_gl.out)⟩; have NE_gr_gl : Aside0 (gr ≠ gl) := ⟨by rw [hg_]; exact Nat.ne_of_gt (blk_lt BK_gl.out)⟩; have NE_gv_gr : Aside0 (gv ≠ gr) := ⟨by rw [hg_]; exact Nat.ne_of_lt (blk_lt BK_gv.out)⟩; have NE_gr_gv : Aside0 (gr ≠ gv) := ⟨by rw [hg_]; exact Nat.ne_of_gt (blk_lt BK_gv.out)⟩; clear hc_gl_0 hc_gl_1 hc_gv_0 hc_gv_1 hc_gv_2; have n_ := Aside0.mk (blk_below BK_gl.out hb_); clear BK_gl; have BK_gl : Aside0 (w3.heap[gl]? = some (.cells #[.slice A0 h.length c0, .slice A1 0 c1] 53 (0, 0))) := n_; clear n_; have n_ := Aside0.mk (blk_below BK_gv.out hb_); clear BK_gv; have BK_gv : Aside0 (w3.heap[gv]? = some (.cells #[.int .i64 a.f0, .int .i64 a.f1, .int .i64 a.f2] 61 (0, 0))) := n_; clear n_; have n_ := Aside0.mk (Kd.C_below HR.out hb_); clear HR; have HR := n_; clear n_; have n_ := Aside0.mk (below_step HB.out hb_); clear HB; have HB := n_; clear n_; have BK_gr := Aside0.mk hbox_; have hc_gl_0 : w3.cell? ⟨gl, 0, none⟩ = some (.slice A0 h.length c0) := (blk_cell BK_gl.out 0).trans rfl; have hc_gl_1 : w3.cell? ⟨gl, 1, none⟩ = some (.slice A1 0 c1) := (blk_cell BK_gl.out 1).trans rfl; have hc_gv_0 : w3.cell? ⟨gv, 0, none⟩ = some (.int .i64 a.f0) := (blk_cell BK_gv.out 0).trans rfl; have hc_gv_1 : w3.cell? ⟨gv, 1, none⟩ = some (.int .i64 a.f1) := (blk_cell BK_gv.out 1).trans rfl; have hc_gv_2 : w3.cell? ⟨gv, 2, none⟩ = some (.int .i64 a.f2) := (blk_cell BK_gv.out 2).trans rfl; have hc_gr_0 : w3.cell? ⟨gr, 0, none⟩ = some (.slice none 0 0) := (blk_cell BK_gr.out 0).trans rfl; have hc_gr_1 : w3.cell? ⟨gr, 1, none⟩ = some (.slice none 0 0) := (blk_cell BK_gr.out 1).trans rfl; clear hg_ hbox_ hb_; have ST3 := True.intro) | (have hck_ := ST1; clear hck_; (with_reducible refine gate_dst (N := 3) rfl ?_); refine box_event ?hg (N := 3) ?hd (cs := #[.int .i64 a.f0, .int .i64 a.f1, .int .i64 a.f2]) (t := 61) ?hr ?_; (case hd => rfl); (case hg => rfl); (case hr => first | (go_simp; done) | (go_simp; rfl)); intro gv hg_ w2 hbox_ hb_; have GE_gv : Aside0 (w.heap.size ≤ gv) := ⟨by rw [hg_]; exact below_size HB.out⟩; have NE_gl_gv : Aside0 (gl ≠ gv) := ⟨by rw [hg_]; exact Nat.ne_of_lt (blk_lt BK_gl.out)⟩; have NE_gv_gl : Aside0 (gv ≠ gl) := ⟨by rw [hg_]; exact Nat.ne_of_gt (blk_lt BK_gl.out)⟩; clear hc_gl_0 hc_gl_1; have n_ := Aside0.mk (blk_below BK_gl.out hb_); clear BK_gl; have BK_gl : Aside0 (w2.heap[gl]? = some (.cells #[.slice A0 h.length c0, .slice A1 0 c1] 53 (0, 0))) := n_; clear n_; have n_ := Aside0.mk (Kd.C_below HR.out hb_); clear HR; have HR := n_; clear n_; have n_ := Aside0.mk (below_step HB.out hb_); clear HB; have HB := n_; clear n_; have BK_gv := Aside0.mk hbox_; have hc_gl_0 : w2.cell? ⟨gl, 0, none⟩ = some (.slice A0 h.length c0) := (blk_cell BK_gl.out 0).trans rfl; have hc_gl_1 : w2.cell? ⟨gl, 1, none⟩ = some (.slice A1 0 c1) := (blk_cell BK_gl.out 1).trans rfl; have hc_gv_0 : w2.cell? ⟨gv, 0, none⟩ = some (.int .i64 a.f0) := (blk_cell BK_gv.out 0).trans rfl; have hc_gv_1 : w2.cell? ⟨gv, 1, none⟩ = some (.int .i64 a.f1) := (blk_cell BK_gv.out 1).trans rfl; have hc_gv_2 : w2.cell? ⟨gv, 2, none⟩ = some (.int .i64 a.f2) := (blk_cell BK_gv.out 2).trans rfl; clear hg_ hbox_ hb_; have ST2 := True.intro) | (have hck_ := ST0; clear hck_; (with_reducible refine gate_dst (N := 2) rfl ?_); refine box_event ?hg (N := 2) ?hd (cs := #[.slice A0 h.length c0, .slice A1 0 c1]) (t := 53) ?hr ?_; (case hd => rfl); (case hg => rfl); (case hr => first | (go_simp; done) | (go_simp; rfl)); intro gl hg_ w1 hbox_ hb_; have GE_gl : Aside0 (w.heap.size ≤ gl) := ⟨by rw [hg_]; exact below_size HB.out⟩; have n_ := Aside0.mk (Kd.C_below HR.out hb_); clear HR; have HR := n_; clear n_; have n_ := Aside0.mk (below_step HB.out hb_); clear HB; have HB := n_; clear n_; have BK_gl := Aside0.mk hbox_; have hc_gl_0 : w1.cell? ⟨gl, 0, none⟩ = some (.slice A0 h.length c0) := (blk_cell BK_gl.out 0).trans rfl; have hc_gl_1 : w1.cell? ⟨gl, 1, none⟩ = some (.slice A1 0 c1) := (blk_cell BK_gl.out 1).trans rfl; clear hg_ hbox_ hb_; have ST1 := True.intro))
  refine bodyPost_ret (results_ct rfl _ _ gr 53 #[.slice B0 h.length b0, .slice B1 0 b1] (0, 0) _ rfl (by refine blk_put (cs := #[.slice B0 h.length b0, .slice none 0 0]) ?_ 1 _ rfl; exact blk_put BK_gr.out 0 _ rfl) Try.underlying53 rfl (by kernel_rfl)) rfl ?_
  refine ⟨B0, b0, B1, b1, rfl, ?_, (Kd.R_reads' HO.out).2.1, below_set (below_set HB.out GE_gr.out) GE_gr.out⟩
  exact ((ws_C.of_R HO.out).set BK_gr.out (by decide) 0 _).set (blk_put BK_gr.out 0 _ rfl) (by decide) 1 _

set_option maxHeartbeats 8000000 in
set_option maxRecDepth 100000 in
theorem ws_ask2 (A0 : Option Addr) (c0 : Nat) (h : List LA) (A1 : Option Addr) (c1 : Nat) (a : LA) (w : World) (hr0 : Kd.C k61 w A0 h.length h) (hc0 : h.length ≤ c0) (hlen : h.length ≤ 1000) (hall : lk_all h [] = true) (hok : lk_ok a = true) (hany : h.any (fun x => lk_cov x a) = false) (hfr : lk_free h a [] = true) (hno : h.any (lk_same a) = false) :
    Calls Try.prog 30 #[.agg #[.slice A0 h.length c0, .slice A1 0 c1], .agg #[.int .i64 a.f0, .int .i64 a.f1, .int .i64 a.f2]] w fun e w' => ∃ (B0 : Option Addr) (b0 : Nat) (B1 : Option Addr) (b1 : Nat), e = .returned (.tuple #[.agg #[.slice B0 (h ++ [a]).length b0, .slice B1 0 b1], .bool true]) ∧ ws_C w' B0 (h ++ [a]) ∧ (h ++ [a]).length ≤ b0 ∧ Below w.heap.size w w' := by
  have hu61 := Try.underlying61
  have hu53 := Try.underlying53
  have hu51 := Try.underlying51
  have HR := Aside0.mk hr0
  have HC := Aside0.mk hc0
  have HLE := Aside0.mk hlen
  have HLO : Aside0 (impl_LocksOk.f h [] = some true) := ⟨congrArg some hall⟩
  have HOK : Aside0 (impl_Ask_ok.f a.f0 a.f1 a.f2 = some true) := ⟨(lk_ok_eq a).trans (congrArg some hok)⟩
  have HCP : Aside0 (impl_Locks_copy.f h [] = some (h, [])) := ⟨ws_copy h hlen⟩
  have hz : ∀ (W : World) (A : Option Addr), Kd.C k61 W A ([] : List LA).length [] := fun W A => ⟨rfl, Nat.zero_le _, fun h_ => absurd h_ (Nat.lt_irrefl 0)⟩
  have HZ := Aside0.mk hz
  have HH : Aside0 (∀ (W : World) (gv : Nat), Kd.C k61 W A0 h.length h → W.cell? ⟨gv, 0, none⟩ = some (.int .i64 a.f0) → W.cell? ⟨gv, 1, none⟩ = some (.int .i64 a.f1) → W.cell? ⟨gv, 2, none⟩ = some (.int .i64 a.f2) → Calls Try.prog 62 #[.slice A0 h.length c0, .func (.func 73) #[] #[.pointer (some ⟨gv, 0, none⟩)]] W fun e w' => e = .returned (.bool false) ∧ Below W.heap.size W w') := ⟨fun W gv hC h0 h1 h2 => by
    have k_ := has62.calls (fun x => lk_cov x a) 73 #[.pointer (some ⟨gv, 0, none⟩)] (enters_own Try.func73 (by kernel_rfl) rfl) A0 c0 h W hC (fun W' x cs hx hb hK => ws_each_cov W W' gv a x cs h0 h1 h2 hb hK)
    rw [hany] at k_
    exact k_⟩
  have HFR := Aside0.mk hfr
  have HNO := Aside0.mk hno
  clear hfr hno
  have HB := Aside0.mk (Below.refl w.heap.size w)
  have ST0 := True.intro
  clear hr0 hc0 hlen hall hok hany hz
  go_enter Try.func30, Try.ntmps30
  go_wp2_with (first | (have hck_ := ST9; clear hck_; go_at_call 74; (with_reducible refine (ws_grant w5.heap.size B0 b0 h B1 b1 a w.heap.size w _ HB.out (below_size HB.out) GE_go.out HLE.out BK_go.out HO.out HNO.out).mono ?_); rintro e w10 ⟨rfl, ⟨D0, d0, hbk_, hC_, hd_⟩, hb_, hk_⟩; have HD := Aside0.mk hC_; have HDC := Aside0.mk hd_; have BKr : Aside0 (w10.heap[gr]? = some (.cells #[.slice none 0 0, .slice none 0 0] 53 (0, 0))) := ⟨(hk_.2 gr (blk_lt BK_gr.out) NE_gr_go.out (Kd.R_ne HO.out BK_gr.out (by decide))).trans BK_gr.out⟩; clear hc_gl_0 hc_gl_1 hc_gv_0 hc_gv_1 hc_gv_2 hc_gr_0 hc_gr_1 hc_go_0 hc_go_1; clear BK_gr; have BK_gr := BKr; clear BKr; have BK_go := Aside0.mk hbk_; clear HB; have HB := Aside0.mk hb_; clear hbk_ hC_ hd_ hb_ hk_; have hc_gr_0 : w10.cell? ⟨gr, 0, none⟩ = some (.slice none 0 0) := (blk_cell BK_gr.out 0).trans rfl; have hc_gr_1 : w10.cell? ⟨gr, 1, none⟩ = some (.slice none 0 0) := (blk_cell BK_gr.out 1).trans rfl; have hc_go_0 : w10.cell? ⟨w5.heap.size, 0, none⟩ = some (.slice D0 (h ++ [a]).length d0) := (blk_cell BK_go.out 0).trans rfl; have hc_go_1 : w10.cell? ⟨w5.heap.size, 1, none⟩ = some (.slice B1 0 b1) := (blk_cell BK_go.out 1).trans rfl; have hf_gr_0 := blk_frozen BK_gr.out 0; have hf_gr_1 := blk_frozen BK_gr.out 1; have ST10 := True.intro) | (have hck_ := ST8; clear hck_; go_at_call 68; refine calls_of_args (args' := #[.agg #[.slice A0 h.length c0, .slice A1 ([] : List LA).length c1], .agg #[.int .i64 a.f0, .int .i64 a.f1, .int .i64 a.f2], .slice A1 ([] : List LA).length c1]) (by rfl) ?_; (with_reducible refine (lk_free_calls A0 c0 h A1 c1 [] a A1 c1 [] _ HR.out (HZ.out _ _)).mono ?_); rintro e w9 ⟨he_, hb_⟩; rw [HFR.out] at he_; subst he_; clear hc_gl_0 hc_gl_1 hc_gv_0 hc_gv_1 hc_gv_2 hc_gr_0 hc_gr_1 hc_go_0 hc_go_1; have n_ := Aside0.mk (blk_below BK_gl.out hb_); clear BK_gl; have BK_gl : Aside0 (w9.heap[gl]? = some (.cells #[.slice A0 h.length c0, .slice A1 0 c1] 53 (0, 0))) := n_; clear n_; have n_ := Aside0.mk (blk_below BK_gv.out hb_); clear BK_gv; have BK_gv : Aside0 (w9.heap[gv]? = some (.cells #[.int .i64 a.f0, .int .i64 a.f1, .int .i64 a.f2] 61 (0, 0))) := n_; clear n_; have n_ := Aside0.mk (blk_below BK_gr.out hb_); clear BK_gr; have BK_gr : Aside0 (w9.heap[gr]? = some (.cells #[.slice none 0 0, .slice none 0 0] 53 (0, 0))) := n_; clear n_; have n_ := Aside0.mk (blk_below BK_go.out hb_); clear BK_go; have BK_go : Aside0 (w9.heap[w5.heap.size]? = some (.cells #[.slice B0 h.length b0, .slice B1 0 b1] 53 (0, 0))) := n_; clear n_; have n_ := Aside0.mk (Kd.C_below HR.out hb_); clear HR; have HR := n_; clear n_; have n_ := Aside0.mk (Kd.R_below HO.out hb_); clear HO; have HO := n_; clear n_; have n_ := Aside0.mk (below_step HB.out hb_); clear HB; have HB := n_; clear n_; have hc_gl_0 : w9.cell? ⟨gl, 0, none⟩ = some (.slice A0 h.length c0) := (blk_cell BK_gl.out 0).trans rfl; have hc_gl_1 : w9.cell? ⟨gl, 1, none⟩ = some (.slice A1 0 c1) := (blk_cell BK_gl.out 1).trans rfl; have hc_gv_0 : w9.cell? ⟨gv, 0, none⟩ = some (.int .i64 a.f0) := (blk_cell BK_gv.out 0).trans rfl; have hc_gv_1 : w9.cell? ⟨gv, 1, none⟩ = some (.int .i64 a.f1) := (blk_cell BK_gv.out 1).trans rfl; have hc_gv_2 : w9.cell? ⟨gv, 2, none⟩ = some (.int .i64 a.f2) := (blk_cell BK_gv.out 2).trans rfl; have hc_gr_0 : w9.cell? ⟨gr, 0, none⟩ = some (.slice none 0 0) := (blk_cell BK_gr.out 0).trans rfl; have hc_gr_1 : w9.cell? ⟨gr, 1, none⟩ = some (.slice none 0 0) := (blk_cell BK_gr.out 1).trans rfl; have hc_go_0 : w9.cell? ⟨w5.heap.size, 0, none⟩ = some (.slice B0 h.length b0) := (blk_cell BK_go.out 0).trans rfl; have hc_go_1 : w9.cell? ⟨w5.heap.size, 1, none⟩ = some (.slice B1 0 b1) := (blk_cell BK_go.out 1).trans rfl; clear hb_; have ST9 := True.intro) | (have hck_ := ST7; clear hck_; go_at_call 62; (with_reducible refine (HH.out _ gv HR.out hc_gv_0 hc_gv_1 hc_gv_2).mono ?_); rintro e w8 ⟨rfl, hb_⟩; clear hc_gl_0 hc_gl_1 hc_gv_0 hc_gv_1 hc_gv_2 hc_gr_0 hc_gr_1 hc_go_0 hc_go_1; have n_ := Aside0.mk (blk_below BK_gl.out hb_); clear BK_gl; have BK_gl : Aside0 (w8.heap[gl]? = some (.cells #[.slice A0 h.length c0, .slice A1 0 c1] 53 (0, 0))) := n_; clear n_; have n_ := Aside0.mk (blk_below BK_gv.out hb_); clear BK_gv; have BK_gv : Aside0 (w8.heap[gv]? = some (.cells #[.int .i64 a.f0, .int .i64 a.f1, .int .i64 a.f2] 61 (0, 0))) := n_; clear n_; have n_ := Aside0.mk (blk_below BK_gr.out hb_); clear BK_gr; have BK_gr : Aside0 (w8.heap[gr]? = some (.cells #[.slice none 0 0, .slice none 0 0] 53 (0, 0))) := n_; clear n_; have n_ := Aside0.mk (blk_below BK_go.out hb_); clear BK_go; have BK_go : Aside0 (w8.heap[w5.heap.size]? = some (.cells #[.slice B0 h.length b0, .slice B1 0 b1] 53 (0, 0))) := n_; clear n_; have n_ := Aside0.mk (Kd.C_below HR.out hb_); clear HR; have HR := n_; clear n_; have n_ := Aside0.mk (Kd.R_below HO.out hb_); clear HO; have HO := n_; clear n_; have n_ := Aside0.mk (below_step HB.out hb_); clear HB; have HB := n_; clear n_; have hc_gl_0 : w8.cell? ⟨gl, 0, none⟩ = some (.slice A0 h.length c0) := (blk_cell BK_gl.out 0).trans rfl; have hc_gl_1 : w8.cell? ⟨gl, 1, none⟩ = some (.slice A1 0 c1) := (blk_cell BK_gl.out 1).trans rfl; have hc_gv_0 : w8.cell? ⟨gv, 0, none⟩ = some (.int .i64 a.f0) := (blk_cell BK_gv.out 0).trans rfl; have hc_gv_1 : w8.cell? ⟨gv, 1, none⟩ = some (.int .i64 a.f1) := (blk_cell BK_gv.out 1).trans rfl; have hc_gv_2 : w8.cell? ⟨gv, 2, none⟩ = some (.int .i64 a.f2) := (blk_cell BK_gv.out 2).trans rfl; have hc_gr_0 : w8.cell? ⟨gr, 0, none⟩ = some (.slice none 0 0) := (blk_cell BK_gr.out 0).trans rfl; have hc_gr_1 : w8.cell? ⟨gr, 1, none⟩ = some (.slice none 0 0) := (blk_cell BK_gr.out 1).trans rfl; have hc_go_0 : w8.cell? ⟨w5.heap.size, 0, none⟩ = some (.slice B0 h.length b0) := (blk_cell BK_go.out 0).trans rfl; have hc_go_1 : w8.cell? ⟨w5.heap.size, 1, none⟩ = some (.slice B1 0 b1) := (blk_cell BK_go.out 1).trans rfl; clear hb_; have ST8 := True.intro) | (have hck_ := ST6; clear hck_; go_at_call 72; (with_reducible refine (ws_waits A0 c0 h A1 c1 a.f0 _).mono ?_); rintro e w7 ⟨rfl, hb_⟩; clear hc_gl_0 hc_gl_1 hc_gv_0 hc_gv_1 hc_gv_2 hc_gr_0 hc_gr_1 hc_go_0 hc_go_1; have n_ := Aside0.mk (blk_below BK_gl.out hb_); clear BK_gl; have BK_gl : Aside0 (w7.heap[gl]? = some (.cells #[.slice A0 h.length c0, .slice A1 0 c1] 53 (0, 0))) := n_; clear n_; have n_ := Aside0.mk (blk_below BK_gv.out hb_); clear BK_gv; have BK_gv : Aside0 (w7.heap[gv]? = some (.cells #[.int .i64 a.f0, .int .i64 a.f1, .int .i64 a.f2] 61 (0, 0))) := n_; clear n_; have n_ := Aside0.mk (blk_below BK_gr.out hb_); clear BK_gr; have BK_gr : Aside0 (w7.heap[gr]? = some (.cells #[.slice none 0 0, .slice none 0 0] 53 (0, 0))) := n_; clear n_; have n_ := Aside0.mk (blk_below BK_go.out hb_); clear BK_go; have BK_go : Aside0 (w7.heap[w5.heap.size]? = some (.cells #[.slice B0 h.length b0, .slice B1 0 b1] 53 (0, 0))) := n_; clear n_; have n_ := Aside0.mk (Kd.C_below HR.out hb_); clear HR; have HR := n_; clear n_; have n_ := Aside0.mk (Kd.R_below HO.out hb_); clear HO; have HO := n_; clear n_; have n_ := Aside0.mk (below_step HB.out hb_); clear HB; have HB := n_; clear n_; have hc_gl_0 : w7.cell? ⟨gl, 0, none⟩ = some (.slice A0 h.length c0) := (blk_cell BK_gl.out 0).trans rfl; have hc_gl_1 : w7.cell? ⟨gl, 1, none⟩ = some (.slice A1 0 c1) := (blk_cell BK_gl.out 1).trans rfl; have hc_gv_0 : w7.cell? ⟨gv, 0, none⟩ = some (.int .i64 a.f0) := (blk_cell BK_gv.out 0).trans rfl; have hc_gv_1 : w7.cell? ⟨gv, 1, none⟩ = some (.int .i64 a.f1) := (blk_cell BK_gv.out 1).trans rfl; have hc_gv_2 : w7.cell? ⟨gv, 2, none⟩ = some (.int .i64 a.f2) := (blk_cell BK_gv.out 2).trans rfl; have hc_gr_0 : w7.cell? ⟨gr, 0, none⟩ = some (.slice none 0 0) := (blk_cell BK_gr.out 0).trans rfl; have hc_gr_1 : w7.cell? ⟨gr, 1, none⟩ = some (.slice none 0 0) := (blk_cell BK_gr.out 1).trans rfl; have hc_go_0 : w7.cell? ⟨w5.heap.size, 0, none⟩ = some (.slice B0 h.length b0) := (blk_cell BK_go.out 0).trans rfl; have hc_go_1 : w7.cell? ⟨w5.heap.size, 1, none⟩ = some (.slice B1 0 b1) := (blk_cell BK_go.out 1).trans rfl; clear hb_; have ST7 := True.intro) | (have hck_ := ST5; clear hck_; go_at_call 61; (with_reducible refine (impl_Ask_ok.calls a.f0 a.f1 a.f2 true _ HOK.out).mono ?_); rintro e w6 ⟨rfl, hb_⟩; have hbx_ := below_step (below_alloc (Below.refl w5.heap.size w5) (.cells #[.slice B0 h.length b0, .slice B1 0 b1] 53)) hb_; have GE_go : Aside0 (w.heap.size ≤ w5.heap.size) := ⟨below_size HB.out⟩; have NE_gl_go : Aside0 (gl ≠ w5.heap.size) := ⟨Nat.ne_of_lt (blk_lt BK_gl.out)⟩; have NE_go_gl : Aside0 (w5.heap.size ≠ gl) := ⟨Nat.ne_of_gt (blk_lt BK_gl.out)⟩; have NE_gv_go : Aside0 (gv ≠ w5.heap.size) := ⟨Nat.ne_of_lt (blk_lt BK_gv.out)⟩; have NE_go_gv : Aside0 (w5.heap.size ≠ gv) := ⟨Nat.ne_of_gt (blk_lt BK_gv.out)⟩; have NE_gr_go : Aside0 (gr ≠ w5.heap.size) := ⟨Nat.ne_of_lt (blk_lt BK_gr.out)⟩; have NE_go_gr : Aside0 (w5.heap.size ≠ gr) := ⟨Nat.ne_of_gt (blk_lt BK_gr.out)⟩; have BKn_ := Aside0.mk (blk_below (heap_alloc_new w5 (.cells #[.slice B0 h.length b0, .slice B1 0 b1] 53)) hb_); clear hc_gl_0 hc_gl_1 hc_gv_0 hc_gv_1 hc_gv_2 hc_gr_0 hc_gr_1; clear ha_gl_0 ha_gl_1 ha_gv_0 ha_gv_1 ha_gv_2 ha_gr_0 ha_gr_1; have n_ := Aside0.mk (blk_below BK_gl.out hbx_); clear BK_gl; have BK_gl : Aside0 (w6.heap[gl]? = some (.cells #[.slice A0 h.length c0, .slice A1 0 c1] 53 (0, 0))) := n_; clear n_; have n_ := Aside0.mk (blk_below BK_gv.out hbx_); clear BK_gv; have BK_gv : Aside0 (w6.heap[gv]? = some (.cells #[.int .i64 a.f0, .int .i64 a.f1, .int .i64 a.f2] 61 (0, 0))) := n_; clear n_; have n_ := Aside0.mk (blk_below BK_gr.out hbx_); clear BK_gr; have BK_gr : Aside0 (w6.heap[gr]? = some (.cells #[.slice none 0 0, .slice none 0 0] 53 (0, 0))) := n_; clear n_; have n_ := Aside0.mk (Kd.C_below HR.out hbx_); clear HR; have HR := n_; clear n_; have n_ := Aside0.mk (Kd.R_below HO.out hbx_); clear HO; have HO := n_; clear n_; have n_ := Aside0.mk (below_step HB.out hbx_); clear HB; have HB := n_; clear n_; have BK_go : Aside0 (w6.heap[w5.heap.size]? = some (.cells #[.slice B0 h.length b0, .slice B1 0 b1] 53 (0, 0))) := BKn_; clear BKn_; clear hbx_; have hc_gl_0 : w6.cell? ⟨gl, 0, none⟩ = some (.slice A0 h.length c0) := (blk_cell BK_gl.out 0).trans rfl; have hc_gl_1 : w6.cell? ⟨gl, 1, none⟩ = some (.slice A1 0 c1) := (blk_cell BK_gl.out 1).trans rfl; have hc_gv_0 : w6.cell? ⟨gv, 0, none⟩ = some (.int .i64 a.f0) := (blk_cell BK_gv.out 0).trans rfl; have hc_gv_1 : w6.cell? ⟨gv, 1, none⟩ = some (.int .i64 a.f1) := (blk_cell BK_gv.out 1).trans rfl; have hc_gv_2 : w6.cell? ⟨gv, 2, none⟩ = some (.int .i64 a.f2) := (blk_cell BK_gv.out 2).trans rfl; have hc_gr_0 : w6.cell? ⟨gr, 0, none⟩ = some (.slice none 0 0) := (blk_cell BK_gr.out 0).trans rfl; have hc_gr_1 : w6.cell? ⟨gr, 1, none⟩ = some (.slice none 0 0) := (blk_cell BK_gr.out 1).trans rfl; have hc_go_0 : w6.cell? ⟨w5.heap.size, 0, none⟩ = some (.slice B0 h.length b0) := (blk_cell BK_go.out 0).trans rfl; have hc_go_1 : w6.cell? ⟨w5.heap.size, 1, none⟩ = some (.slice B1 0 b1) := (blk_cell BK_go.out 1).trans rfl; clear hb_; have ST6 := True.intro) | (have hck_ := ST4; clear hck_; go_at_call 71; refine calls_of_args (args' := #[.agg #[.slice A0 h.length c0, .slice A1 ([] : List LA).length c1]]) (by rfl) ?_; have HB0 := HB; (with_reducible refine (impl_Locks_copy.calls A0 c0 h A1 c1 [] h [] _ HR.out HC.out (HZ.out _ _) (Nat.zero_le _) HCP.out).mono ?_); rintro e w5 ⟨v0, v1, rfl, hs0_, hs1_, hb_⟩; clear hc_gl_0 hc_gl_1 hc_gv_0 hc_gv_1 hc_gv_2 hc_gr_0 hc_gr_1; have n_ := Aside0.mk (blk_below BK_gl.out hb_); clear BK_gl; have BK_gl : Aside0 (w5.heap[gl]? = some (.cells #[.slice A0 h.length c0, .slice A1 0 c1] 53 (0, 0))) := n_; clear n_; have n_ := Aside0.mk (blk_below BK_gv.out hb_); clear BK_gv; have BK_gv : Aside0 (w5.heap[gv]? = some (.cells #[.int .i64 a.f0, .int .i64 a.f1, .int .i64 a.f2] 61 (0, 0))) := n_; clear n_; have n_ := Aside0.mk (blk_below BK_gr.out hb_); clear BK_gr; have BK_gr : Aside0 (w5.heap[gr]? = some (.cells #[.slice none 0 0, .slice none 0 0] 53 (0, 0))) := n_; clear n_; have n_ := Aside0.mk (Kd.C_below HR.out hb_); clear HR; have HR := n_; clear n_; have n_ := Aside0.mk (below_step HB.out hb_); clear HB; have HB := n_; clear n_; obtain ⟨B0, b0, e0_⟩ := Kd.R_slice hs0_; subst e0_; obtain ⟨B1, b1, e1_⟩ := Kd.R_slice hs1_; have e1' : v1 = .slice B1 0 b1 := e1_; subst e1'; have HO := Aside0.mk (Kd.R_lower (Kd.R_mono (ok' := fun _ => True) hs0_ (fun _ _ => True.intro)) (below_size HB0.out)); clear e1_ hs0_ hs1_ HB0; have hc_gl_0 : w5.cell? ⟨gl, 0, none⟩ = some (.slice A0 h.length c0) := (blk_cell BK_gl.out 0).trans rfl; have hc_gl_1 : w5.cell? ⟨gl, 1, none⟩ = some (.slice A1 0 c1) := (blk_cell BK_gl.out 1).trans rfl; have hc_gv_0 : w5.cell? ⟨gv, 0, none⟩ = some (.int .i64 a.f0) := (blk_cell BK_gv.out 0).trans rfl; have hc_gv_1 : w5.cell? ⟨gv, 1, none⟩ = some (.int .i64 a.f1) := (blk_cell BK_gv.out 1).trans rfl; have hc_gv_2 : w5.cell? ⟨gv, 2, none⟩ = some (.int .i64 a.f2) := (blk_cell BK_gv.out 2).trans rfl; have hc_gr_0 : w5.cell? ⟨gr, 0, none⟩ = some (.slice none 0 0) := (blk_cell BK_gr.out 0).trans rfl; have hc_gr_1 : w5.cell? ⟨gr, 1, none⟩ = some (.slice none 0 0) := (blk_cell BK_gr.out 1).trans rfl; clear hb_; have ST5 := True.intro; have ha_gl_0 : ∀ o, (w5.alloc o).cell? ⟨gl, 0, none⟩ = some (.slice A0 h.length c0) := fun o => pw_cell_below (below_alloc (Below.refl _ _) o) hc_gl_0; have ha_gl_1 : ∀ o, (w5.alloc o).cell? ⟨gl, 1, none⟩ = some (.slice A1 0 c1) := fun o => pw_cell_below (below_alloc (Below.refl _ _) o) hc_gl_1; have ha_gv_0 : ∀ o, (w5.alloc o).cell? ⟨gv, 0, none⟩ = some (.int .i64 a.f0) := fun o => pw_cell_below (below_alloc (Below.refl _ _) o) hc_gv_0; have ha_gv_1 : ∀ o, (w5.alloc o).cell? ⟨gv, 1, none⟩ = some (.int .i64 a.f1) := fun o => pw_cell_below (below_alloc (Below.refl _ _) o) hc_gv_1; have ha_gv_2 : ∀ o, (w5.alloc o).cell? ⟨gv, 2, none⟩ = some (.int .i64 a.f2) := fun o => pw_cell_below (below_alloc (Below.refl _ _) o) hc_gv_2; have ha_gr_0 : ∀ o, (w5.alloc o).cell? ⟨gr, 0, none⟩ = some (.slice none 0 0) := fun o => pw_cell_below (below_alloc (Below.refl _ _) o) hc_gr_0; have ha_gr_1 : ∀ o, (w5.alloc o).cell? ⟨gr, 1, none⟩ = some (.slice none 0 0) := fun o => pw_cell_below (below_alloc (Below.refl _ _) o) hc_gr_1) | (have hck_ := ST3; clear hck_; go_at_call 27; refine calls_of_args (args' := #[.agg #[.slice A0 h.length c0, .slice A1 ([] : List LA).length c1]]) (by rfl) ?_; (with_reducible refine (impl_LocksOk.calls A0 c0 h A1 c1 [] true _ HR.out HC.out (HZ.out _ _) (Nat.zero_le _) HLO.out).mono ?_); rintro e w4 ⟨rfl, hb_⟩; clear hc_gl_0 hc_gl_1 hc_gv_0 hc_gv_1 hc_gv_2 hc_gr_0 hc_gr_1; have n_ := Aside0.mk (blk_below BK_gl.out hb_); clear BK_gl; have BK_gl : Aside0 (w4.heap[gl]? = some (.cells #[.slice A0 h.length c0, .slice A1 0 c1] 53 (0, 0))) := n_; clear n_; have n_ := Aside0.mk (blk_below BK_gv.out hb_); clear BK_gv; have BK_gv : Aside0 (w4.heap[gv]? = some (.cells #[.int .i64 a.f0, .int .i64 a.f1, .int .i64 a.f2] 61 (0, 0))) := n_; clear n_; have n_ := Aside0.mk (blk_below BK_gr.out hb_); clear BK_gr; have BK_gr : Aside0 (w4.heap[gr]? = some (.cells #[.slice none 0 0, .slice none 0 0] 53 (0, 0))) := n_; clear n_; have n_ := Aside0.mk (Kd.C_below HR.out hb_); clear HR; have HR := n_; clear n_; have n_ := Aside0.mk (below_step HB.out hb_); clear HB; have HB := n_; clear n_; have hc_gl_0 : w4.cell? ⟨gl, 0, none⟩ = some (.slice A0 h.length c0) := (blk_cell BK_gl.out 0).trans rfl; have hc_gl_1 : w4.cell? ⟨gl, 1, none⟩ = some (.slice A1 0 c1) := (blk_cell BK_gl.out 1).trans rfl; have hc_gv_0 : w4.cell? ⟨gv, 0, none⟩ = some (.int .i64 a.f0) := (blk_cell BK_gv.out 0).trans rfl; have hc_gv_1 : w4.cell? ⟨gv, 1, none⟩ = some (.int .i64 a.f1) := (blk_cell BK_gv.out 1).trans rfl; have hc_gv_2 : w4.cell? ⟨gv, 2, none⟩ = some (.int .i64 a.f2) := (blk_cell BK_gv.out 2).trans rfl; have hc_gr_0 : w4.cell? ⟨gr, 0, none⟩ = some (.slice none 0 0) := (blk_cell BK_gr.out 0).trans rfl; have hc_gr_1 : w4.cell? ⟨gr, 1, none⟩ = some (.slice none 0 0) := (blk_cell BK_gr.out 1).trans rfl; clear hb_; have ST4 := True.intro) | (have hck_ := ST2; clear hck_; (with_reducible refine gate_dst (N := 4) rfl ?_); refine box_event ?hg (N := 4) ?hd (cs := #[.slice none 0 0, .slice none 0 0]) (t := 53) ?hr ?_; (case hd => rfl); (case hg => rfl); (case hr => first | (go_simp; done) | (go_simp; rfl)); intro gr hg_ w3 hbox_ hb_; have GE_gr : Aside0 (w.heap.size ≤ gr) := ⟨by rw [hg_]; exact below_size HB.out⟩; have NE_gl_gr : Aside0 (gl ≠ gr) := ⟨by rw [hg_]; exact Nat.ne_of_lt (blk_lt BK_gl.out)⟩; have NE_gr_gl : Aside0 (gr ≠ gl) := ⟨by rw [hg_]; exact Nat.ne_of_gt (blk_lt BK_gl.out)⟩; have NE_gv_gr : Aside0 (gv ≠ gr) := ⟨by rw [hg_]; exact Nat.ne_of_lt (blk_lt BK_gv.out)⟩; have NE_gr_gv : Aside0 (gr ≠ gv) := ⟨by rw [hg_]; exact Nat.ne_of_gt (blk_lt BK_gv.out)⟩; clear hc_gl_0 hc_gl_1 hc_gv_0 hc_gv_1 hc_gv_2; have n_ := Aside0.mk (blk_below BK_gl.out hb_); clear BK_gl; have BK_gl : Aside0 (w3.heap[gl]? = some (.cells #[.slice A0 h.length c0, .slice A1 0 c1] 53 (0, 0))) := n_; clear n_; have n_ := Aside0.mk (blk_below BK_gv.out hb_); clear BK_gv; have BK_gv : Aside0 (w3.heap[gv]? = some (.cells #[.int .i64 a.f0, .int .i64 a.f1, .int .i64 a.f2] 61 (0, 0))) := n_; clear n_; have n_ := Aside0.mk (Kd.C_below HR.out hb_); clear HR; have HR := n_; clear n_; have n_ := Aside0.mk (below_step HB.out hb_); clear HB; have HB := n_; clear n_; have BK_gr := Aside0.mk hbox_; have hc_gl_0 : w3.cell? ⟨gl, 0, none⟩ = some (.slice A0 h.length c0) := (blk_cell BK_gl.out 0).trans rfl; have hc_gl_1 : w3.cell? ⟨gl, 1, none⟩ = some (.slice A1 0 c1) := (blk_cell BK_gl.out 1).trans rfl; have hc_gv_0 : w3.cell? ⟨gv, 0, none⟩ = some (.int .i64 a.f0) := (blk_cell BK_gv.out 0).trans rfl; have hc_gv_1 : w3.cell? ⟨gv, 1, none⟩ = some (.int .i64 a.f1) := (blk_cell BK_gv.out 1).trans rfl; have hc_gv_2 : w3.cell? ⟨gv, 2, none⟩ = some (.int .i64 a.f2) := (blk_cell BK_gv.out 2).trans rfl; have hc_gr_0 : w3.cell? ⟨gr, 0, none⟩ = some (.slice none 0 0) := (blk_cell BK_gr.out 0).trans rfl; have hc_gr_1 : w3.cell? ⟨gr, 1, none⟩ = some (.slice none 0 0) := (blk_cell BK_gr.out 1).trans rfl; clear hg_ hbox_ hb_; have ST3 := True.intro) | (have hck_ := ST1; clear hck_; (with_reducible refine gate_dst (N := 3) rfl ?_); refine box_event ?hg (N := 3) ?hd (cs := #[.int .i64 a.f0, .int .i64 a.f1, .int .i64 a.f2]) (t := 61) ?hr ?_; (case hd => rfl); (case hg => rfl); (case hr => first | (go_simp; done) | (go_simp; rfl)); intro gv hg_ w2 hbox_ hb_; have GE_gv : Aside0 (w.heap.size ≤ gv) := ⟨by rw [hg_]; exact below_size HB.out⟩; have NE_gl_gv : Aside0 (gl ≠ gv) := ⟨by rw [hg_]; exact Nat.ne_of_lt (blk_lt BK_gl.out)⟩; have NE_gv_gl : Aside0 (gv ≠ gl) := ⟨by rw [hg_]; exact Nat.ne_of_gt (blk_lt BK_gl.out)⟩; clear hc_gl_0 hc_gl_1; have n_ := Aside0.mk (blk_below BK_gl.out hb_); clear BK_gl; have BK_gl : Aside0 (w2.heap[gl]? = some (.cells #[.slice A0 h.length c0, .slice A1 0 c1] 53 (0, 0))) := n_; clear n_; have n_ := Aside0.mk (Kd.C_below HR.out hb_); clear HR; have HR := n_; clear n_; have n_ := Aside0.mk (below_step HB.out hb_); clear HB; have HB := n_; clear n_; have BK_gv := Aside0.mk hbox_; have hc_gl_0 : w2.cell? ⟨gl, 0, none⟩ = some (.slice A0 h.length c0) := (blk_cell BK_gl.out 0).trans rfl; have hc_gl_1 : w2.cell? ⟨gl, 1, none⟩ = some (.slice A1 0 c1) := (blk_cell BK_gl.out 1).trans rfl; have hc_gv_0 : w2.cell? ⟨gv, 0, none⟩ = some (.int .i64 a.f0) := (blk_cell BK_gv.out 0).trans rfl; have hc_gv_1 : w2.cell? ⟨gv, 1, none⟩ = some (.int .i64 a.f1) := (blk_cell BK_gv.out 1).trans rfl; have hc_gv_2 : w2.cell? ⟨gv, 2, none⟩ = some (.int .i64 a.f2) := (blk_cell BK_gv.out 2).trans rfl; clear hg_ hbox_ hb_; have ST2 := True.intro) | (have hck_ := ST0; clear hck_; (with_reducible refine gate_dst (N := 2) rfl ?_); refine box_event ?hg (N := 2) ?hd (cs := #[.slice A0 h.length c0, .slice A1 0 c1]) (t := 53) ?hr ?_; (case hd => rfl); (case hg => rfl); (case hr => first | (go_simp; done) | (go_simp; rfl)); intro gl hg_ w1 hbox_ hb_; have GE_gl : Aside0 (w.heap.size ≤ gl) := ⟨by rw [hg_]; exact below_size HB.out⟩; have n_ := Aside0.mk (Kd.C_below HR.out hb_); clear HR; have HR := n_; clear n_; have n_ := Aside0.mk (below_step HB.out hb_); clear HB; have HB := n_; clear n_; have BK_gl := Aside0.mk hbox_; have hc_gl_0 : w1.cell? ⟨gl, 0, none⟩ = some (.slice A0 h.length c0) := (blk_cell BK_gl.out 0).trans rfl; have hc_gl_1 : w1.cell? ⟨gl, 1, none⟩ = some (.slice A1 0 c1) := (blk_cell BK_gl.out 1).trans rfl; clear hg_ hbox_ hb_; have ST1 := True.intro))
  refine bodyPost_ret (results_ct rfl _ _ gr 53 #[.slice D0 (h ++ [a]).length d0, .slice B1 0 b1] (0, 0) _ rfl (by refine blk_put (cs := #[.slice D0 (h ++ [a]).length d0, .slice none 0 0]) ?_ 1 _ (by simp); exact blk_put BK_gr.out 0 _ (by simp)) Try.underlying53 rfl (by kernel_rfl)) rfl ?_
  refine ⟨D0, d0, B1, b1, rfl, ?_, HDC.out, below_set (below_set HB.out GE_gr.out) GE_gr.out⟩
  exact (HD.out.set BK_gr.out (by decide) 0 _).set (blk_put BK_gr.out 0 _ rfl) (by decide) 1 _
end

end Go.Proofs.Ytalhkihppcjanaa.X
