/- Plain functions for the Go functions of this seat, and proofs that each call answers as its plain function does; made by this session's program over the kit's printer. -/
import Derived.Test.YtalhkihppcjanaaX0
import Derived.Test.YtalhkihppcjanaaZFnWholeShares3
namespace Go.Proofs.Ytalhkihppcjanaa.X
open Go.RowKit Go.Proofs.YtalhkihppcjanaaV.PrintWords Go.Proofs.YtalhkihppcjanaaV.PrintLast Go.Proofs.YtalhkihppcjanaaV.PrintMore
attribute [local go_sem] max2_int min2_int max_two min_two max_three min_three max_four min_four   -- for this text's walks alone
set_option linter.unusedVariables false
set_option linter.unusedSimpArgs false

section
/-! ### laws_FnWholeShares: function 7 -/
def ws_fit (a : LA) : Prop := lk_ok a = true ∧ a.f2 = 1
def ws_step (h : List LA) (a : LA) : List LA := if h.any (fun x => lk_cov x a) = true then h else h ++ [a]
def ws_once (l : List LA) : List LA := l.foldl ws_step []
def ws_good (h : List LA) : Prop := (∀ a ∈ h, ws_fit a) ∧ h.Pairwise (fun x y => lk_same y x = false)
theorem ws_same_eq {a b : LA} (ha : a.f2 = 1) (hb : b.f2 = 1) (h : lk_same a b = true) : b = a := by
  unfold lk_same at h
  rw [Bool.and_eq_true, beq_iff_eq, beq_iff_eq] at h
  obtain ⟨a0, a1, a2⟩ := a
  obtain ⟨b0, b1, b2⟩ := b
  simp only at ha hb h
  obtain ⟨rfl, rfl⟩ := h
  rw [ha, hb]
theorem ws_same_self (a : LA) : lk_same a a = true := by unfold lk_same; simp
theorem ws_cov_same {a x : LA} (ha : a.f2 = 1) (hx : x.f2 = 1) : lk_cov x a = lk_same a x := by
  unfold lk_cov lk_same
  rw [ha, hx, decide_eq_true (by decide), Bool.and_true, Bool.and_comm]
theorem ws_agn {a x : LA} (ha : a.f2 = 1) (hx : x.f2 = 1) : lk_agn a x = false := by
  unfold lk_agn
  rw [ha, hx]
  simp
theorem ws_any_cov {h : List LA} {a : LA} (hg : ws_good h) (ha : ws_fit a) : (h.any fun x => lk_cov x a) = h.any (lk_same a) := by
  rw [Bool.eq_iff_iff, List.any_eq_true, List.any_eq_true]
  constructor <;> rintro ⟨x, hx, he⟩ <;> refine ⟨x, hx, ?_⟩
  · rw [← ws_cov_same ha.2 (hg.1 x hx).2]; exact he
  · rw [ws_cov_same ha.2 (hg.1 x hx).2]; exact he
theorem ws_free {h : List LA} {a : LA} (hg : ws_good h) (ha : ws_fit a) : lk_free h a [] = true := by
  unfold lk_free
  rw [List.any_nil, Bool.not_false, Bool.and_true, Bool.not_eq_true']
  rw [List.any_eq_false]
  intro x hx
  rw [ws_agn ha.2 (hg.1 x hx).2]
  decide
theorem ws_good_all {h : List LA} (hg : ws_good h) : lk_all h [] = true := by
  refine lk_yes h [] (fun j hj => ?_) (fun j hj => absurd hj (Nat.not_lt_zero _))
  unfold lk_heldAt
  have e : h.getD j z61 = h[j] := by rw [List.getD_eq_getElem?_getD, List.getElem?_eq_getElem hj]; rfl
  rw [e, Bool.and_eq_true, Bool.not_eq_true', List.any_eq_false]
  refine ⟨(hg.1 _ (List.getElem_mem hj)).1, fun x hx => ?_⟩
  have hxm : x ∈ h := List.take_subset _ _ hx
  unfold lk_dup
  rw [ws_agn (hg.1 x hxm).2 (hg.1 _ (List.getElem_mem hj)).2, Bool.or_false]
  obtain ⟨i, hi, rfl⟩ := List.mem_iff_getElem.1 hx
  rw [List.length_take] at hi
  rw [List.getElem_take]
  have := List.pairwise_iff_getElem.1 hg.2 i j (by omega) hj (by omega)
  rw [this]
  decide
theorem ws_good_nil : ws_good [] := ⟨fun _ h => (by simp at h), List.Pairwise.nil⟩
theorem ws_good_step {h : List LA} {a : LA} (hg : ws_good h) (ha : ws_fit a) : ws_good (ws_step h a) := by
  unfold ws_step
  by_cases c : (h.any fun x => lk_cov x a) = true
  · rw [if_pos c]; exact hg
  · rw [if_neg c]
    rw [ws_any_cov hg ha, Bool.not_eq_true, List.any_eq_false] at c
    refine ⟨fun b hb => ?_, List.pairwise_append.2 ⟨hg.2, List.pairwise_singleton _ _, fun x hx y hy => ?_⟩⟩
    · rcases List.mem_append.1 hb with hb | hb
      · exact hg.1 b hb
      · rw [List.mem_singleton] at hb; subst hb; exact ha
    · rw [List.mem_singleton] at hy
      subst hy
      simpa using c x hx
theorem ws_good_rest {h : List LA} (hg : ws_good h) (who : Int) : ws_good (ws_rest who h) := ⟨fun a ha => hg.1 a (List.mem_filter.1 ha).1, hg.2.sublist List.filter_sublist⟩
theorem ws_step_mem {h : List LA} {a : LA} (hg : ws_good h) (ha : ws_fit a) (b : LA) : b ∈ ws_step h a ↔ b ∈ h ∨ b = a := by
  unfold ws_step
  by_cases c : (h.any fun x => lk_cov x a) = true
  · rw [if_pos c]
    rw [ws_any_cov hg ha, List.any_eq_true] at c
    obtain ⟨x, hx, he⟩ := c
    have := ws_same_eq ha.2 (hg.1 x hx).2 he
    subst this
    exact ⟨Or.inl, fun h => h.elim id (fun e => by rw [e]; exact hx)⟩
  · rw [if_neg c, List.mem_append, List.mem_singleton]
theorem ws_fold : ∀ (l h : List LA), ws_good h → (∀ a ∈ l, ws_fit a) → ws_good (l.foldl ws_step h) ∧ (∀ b, b ∈ l.foldl ws_step h ↔ b ∈ h ∨ b ∈ l) ∧ (l.foldl ws_step h).length ≤ h.length + l.length
  | [], h, hg, _ => ⟨hg, fun b => by simp, by simp⟩
  | a :: r, h, hg, hf => by
    have ha := hf a List.mem_cons_self
    obtain ⟨i1, i2, i3⟩ := ws_fold r (ws_step h a) (ws_good_step hg ha) (fun b hb => hf b (List.mem_cons_of_mem _ hb))
    refine ⟨i1, fun b => ?_, ?_⟩
    · rw [List.foldl_cons, i2 b, ws_step_mem hg ha, List.mem_cons, or_assoc]
    · rw [List.foldl_cons, List.length_cons]
      have : (ws_step h a).length ≤ h.length + 1 := by
        unfold ws_step
        split
        · omega
        · rw [List.length_append]; simp
      omega
theorem ws_len : ∀ (l1 l2 : List LA), l1.Pairwise (fun x y => lk_same y x = false) → (∀ x ∈ l1, x ∈ l2) → l1.length ≤ l2.length
  | [], _, _, _ => by simp
  | a :: r, l2, hp, hs => by
    obtain ⟨s, t, he⟩ := List.append_of_mem (hs a List.mem_cons_self)
    rw [List.pairwise_cons] at hp
    have := ws_len r (s ++ t) hp.2 (fun x hx => by
      have h1 := hs x (List.mem_cons_of_mem _ hx)
      rw [he, List.mem_append, List.mem_cons] at h1
      rw [List.mem_append]
      rcases h1 with h1 | h1 | h1
      · exact Or.inl h1
      · subst h1
        have := hp.1 x hx
        rw [ws_same_self] at this
        cases this
      · exact Or.inr h1)
    rw [he]
    simp only [List.length_append, List.length_cons] at this ⊢
    omega
theorem ws_once_good {l : List LA} (hf : ∀ a ∈ l, ws_fit a) : ws_good (ws_once l) := (ws_fold l [] ws_good_nil hf).1
theorem ws_once_len {l : List LA} (hf : ∀ a ∈ l, ws_fit a) : (ws_once l).length ≤ l.length := by
  have := (ws_fold l [] ws_good_nil hf).2.2
  simpa [ws_once] using this
theorem ws_once_rev {l : List LA} (hf : ∀ a ∈ l, ws_fit a) : (ws_once l).length = (ws_once l.reverse).length := by
  have hr : ∀ a ∈ l.reverse, ws_fit a := fun a ha => hf a (List.mem_reverse.1 ha)
  have f1 := ws_fold l [] ws_good_nil hf
  have f2 := ws_fold l.reverse [] ws_good_nil hr
  have m1 : ∀ b, b ∈ ws_once l ↔ b ∈ l := fun b => by
    have := f1.2.1 b
    simpa [ws_once] using this
  have m2 : ∀ b, b ∈ ws_once l.reverse ↔ b ∈ l := fun b => by
    have := f2.2.1 b
    simpa [ws_once] using this
  exact Nat.le_antisymm (ws_len _ _ f1.1.2 (fun x hx => (m2 x).2 ((m1 x).1 hx))) (ws_len _ _ f2.1.2 (fun x hx => (m1 x).2 ((m2 x).1 hx)))
theorem ws_once_succ {l : List LA} {k : Nat} (h : k < l.length) : ws_once (l.take (k + 1)) = ws_step (ws_once (l.take k)) l[k] := by
  unfold ws_once
  rw [List.take_succ_eq_append_getElem h, List.foldl_append]
  rfl
theorem ws_take_fit {l : List LA} (hf : ∀ a ∈ l, ws_fit a) (k : Nat) : ∀ a ∈ l.take k, ws_fit a := fun a ha => hf a (List.take_subset _ _ ha)
theorem ws_empty {h : List LA} (hg : ws_good h) (h4 : ∀ x ∈ h, 4 ≤ x.f0) : h = [] := by
  cases h with
  | nil => rfl
  | cons a r =>
    have h1 := (hg.1 a List.mem_cons_self).1
    have h2 := h4 a List.mem_cons_self
    unfold lk_ok at h1
    rw [Bool.and_eq_true, decide_eq_true_iff] at h1
    omega
theorem ws_rest_from {h : List LA} {j : Int} (hj : ∀ x ∈ h, j ≤ x.f0) : ∀ x ∈ ws_rest j h, j + 1 ≤ x.f0 := by
  intro x hx
  obtain ⟨h1, h2⟩ := List.mem_filter.1 hx
  have h3 := hj x h1
  simp only [Bool.not_eq_true', beq_eq_false_iff_ne, ne_eq] at h2
  omega
theorem ws_ask (A0 : Option Addr) (c0 : Nat) (h : List LA) (A1 : Option Addr) (c1 : Nat) (a : LA) (w : World) (hr0 : ws_C w A0 h) (hc0 : h.length ≤ c0) (hlen : h.length ≤ 1000) (hg : ws_good h) (ha : ws_fit a) :
    Calls Try.prog 30 #[.agg #[.slice A0 h.length c0, .slice A1 0 c1], .agg #[.int .i64 a.f0, .int .i64 a.f1, .int .i64 a.f2]] w fun e w' => ∃ (B0 : Option Addr) (b0 : Nat) (B1 : Option Addr) (b1 : Nat), e = .returned (.tuple #[.agg #[.slice B0 (ws_step h a).length b0, .slice B1 0 b1], .bool true]) ∧ ws_C w' B0 (ws_step h a) ∧ (ws_step h a).length ≤ b0 ∧ Below w.heap.size w w' := by
  unfold ws_step
  by_cases c : (h.any fun x => lk_cov x a) = true
  · rw [if_pos c]
    exact ws_ask1 A0 c0 h A1 c1 a w hr0.1 hc0 hlen (ws_good_all hg) ha.1 c
  · rw [if_neg c]
    rw [Bool.not_eq_true] at c
    exact ws_ask2 A0 c0 h A1 c1 a w hr0.1 hc0 hlen (ws_good_all hg) ha.1 c (ws_free hg ha) (by rw [← ws_any_cov hg ha]; exact c)
def ws_l9_T : Bool × List (List Nat × List Nat) := (true, [([], []), ([], []), ([], []), ([1, 2], [1, 2]), ([3], [3]), ([0, 4], [0, 4]), ([5], [5]), ([6], [6]), ([6], [6]), ([], []), ([9, 7, 5, 0, 1, 2, 3, 4, 5, 6, 7, 9], [7, 9]), ([8, 10, 0, 1, 2, 3, 4, 5, 6, 7, 8, 9, 10], [8])])
def ws_l9_B : List Nat := [0, 0, 0, 6, 14, 31, 63, 127, 127, 0, 767, 2047]
theorem ws_l9_tab : rtab .any (opsOf Try.f7 9) = ws_l9_T := by kernel_rfl
theorem ws_l9_bits : waitsOk ws_l9_T.2 ws_l9_B = true := by kernel_rfl
def ws_l10_T : Bool × List (List Nat × List Nat) := (true, [([], []), ([], []), ([], []), ([2], [2]), ([3], [3]), ([], []), ([4, 5], [4, 5]), ([1, 6], [1, 6]), ([7], [7]), ([0, 8], [0, 8]), ([9], [9]), ([10], [10]), ([10], [10]), ([], []), ([13, 11, 9, 0, 1, 2, 3, 4, 5, 6, 7, 8, 9, 10, 11, 13], [11, 13]), ([12, 14, 0, 1, 2, 3, 4, 5, 6, 7, 8, 9, 10, 11, 12, 13, 14], [12])])
def ws_l10_B : List Nat := [0, 0, 0, 4, 12, 0, 60, 126, 254, 511, 1023, 2047, 2047, 0, 12287, 32767]
theorem ws_l10_tab : rtab .any (opsOf Try.f7 10) = ws_l10_T := by kernel_rfl
theorem ws_l10_bits : waitsOk ws_l10_T.2 ws_l10_B = true := by kernel_rfl
def ws_l13_T : Bool × List (List Nat × List Nat) := (true, [([], []), ([], []), ([0, 0], [0]), ([1, 2, 0, 1, 2], [1])])
def ws_l13_B : List Nat := [0, 0, 1, 7]
theorem ws_l13_tab : rtab .any (opsOf Try.f7 13) = ws_l13_T := by kernel_rfl
theorem ws_l13_bits : waitsOk ws_l13_T.2 ws_l13_B = true := by kernel_rfl
theorem ws_asize (w : World) (o : Obj) : (w.alloc o).heap.size = w.heap.size + 1 := by unfold World.alloc; exact Array.size_push _
theorem ws_low {h : List LA} (hg : ws_good h) : ∀ x ∈ h, ((0 : Nat) : Int) ≤ x.f0 := by
  intro x hx
  have h1 := (hg.1 x hx).1
  unfold lk_ok at h1
  rw [Bool.and_eq_true, decide_eq_true_iff] at h1
  omega
theorem ws_cells_of {W : World} {ga : Nat} {l : List LA} (h : Kd.C k61 W (some ⟨ga, 0, none⟩) l.length l) {j : Nat} {a : LA} (hj : l[j]? = some a) : W.cell? ⟨ga, j * 3, none⟩ = some (.int .i64 a.f0) ∧ W.cell? ⟨ga, j * 3 + 1, none⟩ = some (.int .i64 a.f1) ∧ W.cell? ⟨ga, j * 3 + 2, none⟩ = some (.int .i64 a.f2) := by
  have hl : j < l.length := (List.getElem?_eq_some_iff.1 hj).1
  obtain ⟨ad, hA, hc⟩ := h.2.2 (by omega)
  have hA' : ad = ⟨ga, 0, none⟩ := (Option.some.inj hA).symm
  subst hA'
  obtain ⟨cs, hcl, hK, hcell⟩ := hc j a hj
  obtain ⟨_, _, rfl, rfl, _, _, rfl, rfl, rfl⟩ := hK
  have h0 := hcell 0 _ rfl
  have h1 := hcell 1 _ rfl
  have h2 := hcell 2 _ rfl
  rw [Addr.add_lit, Nat.zero_add] at h0 h1 h2
  exact ⟨h0, h1, h2⟩
set_option maxHeartbeats 8000000 in
set_option maxRecDepth 100000 in
theorem ws_law (k : Nat) (A0 : Option Addr) (c0 : Nat) (l0 : List Int) (asks : List LA) (w : World) (hr0 : Kd.C (Kd.int .u8) w A0 l0.length l0) (hc0 : l0.length ≤ c0) (hshort : ¬ (l0.length : Int) > 1048576) (hd : spec_DrawAsks.f k l0 = some asks) (hfit : ∀ a ∈ asks, ws_fit a) (hlen : asks.length ≤ 100) :
    Calls Try.prog 7 #[.slice A0 l0.length c0] w fun e w' => e = .returned (.bool true) ∧ Below w.heap.size w w' := by
  have hu61 := Try.underlying61
  have hu53 := Try.underlying53
  have hu51 := Try.underlying51
  have hq : decide ((1048576 : Int) < (l0.length : Int)) = false := decide_eq_false hshort
  have HR := Aside0.mk hr0
  have HC := Aside0.mk hc0
  have HD := Aside0.mk hd
  have HF := Aside0.mk hfit
  obtain ⟨n, hn⟩ : ∃ n, asks.length = n := ⟨_, rfl⟩
  have HN := Aside0.mk hn
  have hn100 : n ≤ 100 := by omega
  clear hr0 hc0 hd hfit hlen hn hshort
  go_enter Try.func7, Try.ntmps7
  go_wp2_with (go_at_call 29; (with_reducible refine (spec_DrawAsks.calls k A0 c0 l0 asks _ HR.out HC.out HD.out).mono ?_); rintro e w1 ⟨v0, rfl, hr1, hb1⟩; obtain ⟨A2, c2, e2_⟩ := Kd.R_slice hr1; have e2' : v0 = .slice A2 n c2 := (by rw [← HN.out]; exact e2_); subst e2'; clear e2_; have HRA := Aside0.mk hr1; have HB1 := Aside0.mk hb1; clear hr1 hb1)
  have BK_g4 := Aside0.mk (blk_alloc (blk_new w1 (.cells #[.slice none 0 0, .slice none 0 0] 53)) (.cells #[.slice none 0 0, .slice none 0 0] 53))
  have n_ := blk_new (w1.alloc (.cells #[.slice none 0 0, .slice none 0 0] 53)) (.cells #[.slice none 0 0, .slice none 0 0] 53)
  rw [ws_asize] at n_
  have BK_g5 := Aside0.mk n_
  clear n_
  have HRA' : Aside0 (Kd.R k61 61 w1 w.heap.size (fun _ => True) (.slice A2 asks.length c2) asks) := ⟨by rw [HN.out]; exact HRA.out⟩
  have HAF : Aside0 (0 < asks.length → ∃ ga, A2 = some ⟨ga, 0, none⟩) := ⟨fun h_ => by
    obtain ⟨ga, _, hv_, _⟩ := Kd.R_form HRA'.out h_
    injection hv_ with hA_
    exact ⟨ga, hA_⟩⟩
  have HCA := Aside0.mk (((ws_C.of_R HRA'.out).below (below_alloc (Below.refl _ _) (.cells #[.slice none 0 0, .slice none 0 0] 53))).below (below_alloc (Below.refl _ _) (.cells #[.slice none 0 0, .slice none 0 0] 53)))
  have HB := Aside0.mk (below_alloc (below_alloc HB1.out (.cells #[.slice none 0 0, .slice none 0 0] 53)) (.cells #[.slice none 0 0, .slice none 0 0] 53))
  have GE_g4 : Aside0 (w.heap.size ≤ w1.heap.size) := ⟨below_size HB1.out⟩
  have GE_g5 : Aside0 (w.heap.size ≤ w1.heap.size + 1) := ⟨Nat.le_succ_of_le (below_size HB1.out)⟩
  have NE_g4_g5 : Aside0 (w1.heap.size ≠ w1.heap.size + 1) := ⟨by omega⟩
  have NE_g5_g4 : Aside0 (w1.heap.size + 1 ≠ w1.heap.size) := ⟨by omega⟩
  clear HRA HRA' HB1
  generalize (w1.alloc (.cells #[.slice none 0 0, .slice none 0 0] 53)).alloc (.cells #[.slice none 0 0, .slice none 0 0] 53) = w2 at BK_g4 BK_g5 HCA HB ⊢
  generalize w1.heap.size + 1 = g5 at BK_g5 GE_g5 NE_g4_g5 NE_g5_g4 ⊢
  generalize w1.heap.size = g4 at BK_g4 GE_g4 NE_g4_g5 NE_g5_g4 ⊢
  go_loopg [6] n (fun gg s6 wr => ∃ (kk : Nat) (B0 : Option Addr) (b0 : Nat) (B1 : Option Addr) (b1 : Nat) (D0 : Option Addr) (d0 : Nat) (D1 : Option Addr) (d1 : Nat), s6 = .int .i64 kk ∧ kk ≤ n ∧ n - kk ≤ gg ∧ Aside0 (wr.heap[g4]? = some (.cells #[.slice B0 (ws_once (asks.take kk)).length b0, .slice B1 0 b1] 53 (0, 0))) ∧ Aside0 (wr.heap[g5]? = some (.cells #[.slice D0 (ws_once (asks.reverse.take kk)).length d0, .slice D1 0 d1] 53 (0, 0))) ∧ Aside0 (ws_C wr B0 (ws_once (asks.take kk)) ∧ (ws_once (asks.take kk)).length ≤ b0) ∧ Aside0 (ws_C wr D0 (ws_once (asks.reverse.take kk)) ∧ (ws_once (asks.reverse.take kk)).length ≤ d0) ∧ Aside0 (ws_C wr A2 asks) ∧ Aside0 (Below w.heap.size w wr))
  case atStart => exact ⟨0, none, 0, none, 0, none, 0, none, 0, rfl, by omega, by omega, ⟨BK_g4.out⟩, ⟨BK_g5.out⟩, ⟨ws_C.nil _ _, Nat.zero_le _⟩, ⟨ws_C.nil _ _, Nat.zero_le _⟩, HCA, HB⟩
  case round =>
    clear BK_g4 BK_g5 HCA HB
    obtain ⟨kk, B0, b0, B1, b1, D0, d0, D1, d1, rfl, hkk, hg, BK_g4, BK_g5, HL, HM, HCA, HB⟩ := hrel
    have HCL := Aside0.mk HL.out.1
    have HBL := Aside0.mk HL.out.2
    have HCM := Aside0.mk HM.out.1
    have HBM := Aside0.mk HM.out.2
    clear HL HM
    have hrf : ∀ a ∈ asks.reverse, ws_fit a := fun a ha => HF.out a (List.mem_reverse.1 ha)
    have HGH := Aside0.mk (ws_once_good (ws_take_fit HF.out kk))
    have HGM := Aside0.mk (ws_once_good (ws_take_fit hrf kk))
    have HLH : Aside0 ((ws_once (asks.take kk)).length ≤ 1000) := ⟨by have h1_ := ws_once_len (ws_take_fit HF.out kk); rw [List.length_take] at h1_; omega⟩
    have HLM : Aside0 ((ws_once (asks.reverse.take kk)).length ≤ 1000) := ⟨by have h1_ := ws_once_len (ws_take_fit hrf kk); rw [List.length_take] at h1_; omega⟩
    by_cases hkn : kk < n
    · have hltz : decide ((kk : Int) < (n : Int)) = true := decide_eq_true (by omega)
      have hkl : kk < asks.length := by rw [HN.out]; exact hkn
      have hkr : kk < asks.reverse.length := by rw [List.length_reverse]; exact hkl
      obtain ⟨ga, hga⟩ := HAF.out (by omega)
      obtain ⟨jj, hjj⟩ : ∃ jj, jj = n - 1 - kk := ⟨_, rfl⟩
      have HJJ : Aside0 (IntKind.i64.wrap (wrap64 ((n : Int) - 1) - (kk : Int)) = (jj : Int)) := ⟨by rw [i64_w]; unfold wrap64; omega⟩
      have hjn : jj < n := by omega
      have hjz : decide ((jj : Int) < (n : Int)) = true := decide_eq_true (by omega)
      obtain ⟨a, ha⟩ : ∃ a, asks[kk]'hkl = a := ⟨_, rfl⟩
      obtain ⟨b, hb⟩ : ∃ b, asks.reverse[kk]'hkr = b := ⟨_, rfl⟩
      have HSH : Aside0 (ws_once (asks.take (kk + 1)) = ws_step (ws_once (asks.take kk)) a) := ⟨by rw [ws_once_succ hkl, ha]⟩
      have HSM : Aside0 (ws_once (asks.reverse.take (kk + 1)) = ws_step (ws_once (asks.reverse.take kk)) b) := ⟨by rw [ws_once_succ hkr, hb]⟩
      have HFA : Aside0 (ws_fit a) := ⟨by rw [← ha]; exact HF.out _ (List.getElem_mem hkl)⟩
      have HFB : Aside0 (ws_fit b) := ⟨by rw [← hb]; exact hrf _ (List.getElem_mem hkr)⟩
      have HJA : Aside0 (asks[kk]? = some a) := ⟨by rw [List.getElem?_eq_getElem hkl, ha]⟩
      have HJB : Aside0 (asks[jj]? = some b) := ⟨by
        have h_ : asks.reverse[kk]? = some b := by rw [List.getElem?_eq_getElem hkr, hb]
        rw [List.getElem?_reverse hkl] at h_
        rw [hjj, ← HN.out]
        exact h_⟩
      subst hga
      generalize ws_once (asks.take kk) = H at BK_g4 HCL HBL HGH HLH HSH
      generalize ws_once (asks.reverse.take kk) = M at BK_g5 HCM HBM HGM HLM HSM
      clear hrf hkl hkr ha hb hjj
      go_wp2
      refine start_ (n := 12) (S := (fun w' => w'.cell? ⟨g4, 0, none⟩ = some (.slice B0 H.length b0) ∧ w'.cell? ⟨g4, 1, none⟩ = some (.slice B1 0 b1) ∧ w'.cell? ⟨ga, kk * 3, none⟩ = some (.int .i64 a.f0) ∧ w'.cell? ⟨ga, kk * 3 + 1, none⟩ = some (.int .i64 a.f1) ∧ w'.cell? ⟨ga, kk * 3 + 2, none⟩ = some (.int .i64 a.f2))) (ds := [10]) #[false, false, false, false, false, false, false, false, false, false, false, false] (by kernel_rfl) rfl rfl ⟨(blk_cell BK_g4.out 0).trans rfl, (blk_cell BK_g4.out 1).trans rfl, (ws_cells_of HCA.out.C HJA.out).1, (ws_cells_of HCA.out.C HJA.out).2.1, (ws_cells_of HCA.out.C HJA.out).2.2⟩ (fun hHeld => ?_); refine with_tabW ws_l9_tab ws_l9_bits (fun HT_ HW_ => ?_)
      have n_ := Aside0.mk (blk_drew BK_g4.out); clear BK_g4; have BK_g4 := n_; clear n_
      have n_ := Aside0.mk (blk_drew BK_g5.out); clear BK_g5; have BK_g5 := n_; clear n_
      have n_ := Aside0.mk (HCL.out.below (below_drew (Below.refl _ _))); clear HCL; have HCL := n_; clear n_
      have n_ := Aside0.mk (HCM.out.below (below_drew (Below.refl _ _))); clear HCM; have HCM := n_; clear n_
      have n_ := Aside0.mk (HCA.out.below (below_drew (Below.refl _ _))); clear HCA; have HCA := n_; clear n_
      have n_ := Aside0.mk (below_drew1 HB.out); clear HB; have HB := n_; clear n_
      generalize wr.drew = w11 at BK_g4 BK_g5 HCL HCM HCA HB hHeld ⊢
      refine take_ (i := 0) (N := some 26) (v := ?_) (a' := ?_) #[true, false, false, false, false, false, false, false, false, false, false, false] rfl rfl (take_ofW HT_.out HW_.out (by kernel_rfl)) (fun _ _ _ h => h) (Or.inl ⟨by rfl, ?_⟩) hHeld ?_ ?_
      rotate_left
      · rintro w' ⟨s0, s1, s2, s3, s4⟩
        go_simp
        with_reducible rfl
      rotate_left
      · simp only [Act.put, List.setIfInBounds_toArray, List.set_cons_zero, List.set_cons_succ, i64_w, i32_w]
        rfl
      refine pure_ (i := 1) (N := some 27) (v := ?_) (a' := ?_) #[true, true, false, false, false, false, false, false, false, false, false, false] rfl rfl (any_of HT_.out (by kernel_rfl)) (fun _ _ _ h => h) (Or.inl ⟨by rfl, ?_⟩) ?_ ?_
      rotate_left
      · intro w'
        go_simp
        with_reducible rfl
      rotate_left
      · simp only [Act.put, List.setIfInBounds_toArray, List.set_cons_zero, List.set_cons_succ, i64_w, i32_w]
        rfl
      refine pure_ (i := 2) (N := some 28) (v := ?_) (a' := ?_) #[true, true, true, false, false, false, false, false, false, false, false, false] rfl rfl (any_of HT_.out (by kernel_rfl)) (fun _ _ _ h => h) (Or.inl ⟨by rfl, ?_⟩) ?_ ?_
      rotate_left
      · intro w'
        go_simp
        with_reducible rfl
      rotate_left
      · simp only [Act.put, List.setIfInBounds_toArray, List.set_cons_zero, List.set_cons_succ, i64_w, i32_w]
        rfl
      refine pure_ (i := 3) (N := some 29) (v := ?_) (a' := ?_) #[true, true, true, true, false, false, false, false, false, false, false, false] rfl rfl (any_of HT_.out (by kernel_rfl)) (fun _ _ _ h => h) (Or.inl ⟨by rfl, ?_⟩) ?_ ?_
      rotate_left
      · intro w'
        go_simp
        with_reducible rfl
      rotate_left
      · simp only [Act.put, List.setIfInBounds_toArray, List.set_cons_zero, List.set_cons_succ, i64_w, i32_w]
        rfl
      refine take_ (i := 4) (N := some 30) (v := ?_) (a' := ?_) #[true, true, true, true, true, false, false, false, false, false, false, false] rfl rfl (take_ofW HT_.out HW_.out (by kernel_rfl)) (fun _ _ _ h => h) (Or.inl ⟨by rfl, ?_⟩) hHeld ?_ ?_
      rotate_left
      · rintro w' ⟨s0, s1, s2, s3, s4⟩
        go_simp
        with_reducible rfl
      rotate_left
      · simp only [Act.put, List.setIfInBounds_toArray, List.set_cons_zero, List.set_cons_succ, i64_w, i32_w]
        rfl
      refine two_ (i := 5) (j := 9) (Ni := some 31) (Nj := some 7) #[true, true, true, true, true, true, false, false, false, false, false, false] #[true, true, true, true, true, false, false, false, false, true, false, false] rfl rfl rfl rfl (two_of HT_.out (by kernel_rfl)) (by decide) (by decide) (fun K hK => ?_) (fun K hK => ?_)
      · skip
        refine goes_ Try.func30 (by kernel_rfl) rfl #[.agg #[.slice B0 H.length b0, .slice B1 0 b1], .agg #[.int .i64 a.f0, .int .i64 a.f1, .int .i64 a.f2]] (by rfl) rfl rfl (by (try simp only [List.map_toArray, List.map_cons, List.map_nil]); first | done | rfl) ?_
        with_reducible refine (ws_ask B0 b0 H B1 b1 a _ HCL.out HBL.out HLH.out HGH.out HFA.out).mono ?_
        rintro e w12 ⟨E0, e0, E1, e1, rfl, ho_, hoc_, hb_⟩
        refine ⟨_, rfl, ?_⟩
        have HEE := Aside0.mk hoc_
        have HCE := Aside0.mk ho_
        clear ho_ hoc_
        have n_ := Aside0.mk (blk_below BK_g4.out hb_); clear BK_g4; have BK_g4 := n_; clear n_
        have n_ := Aside0.mk (blk_below BK_g5.out hb_); clear BK_g5; have BK_g5 := n_; clear n_
        have n_ := Aside0.mk (HCL.out.below hb_); clear HCL; have HCL := n_; clear n_
        have n_ := Aside0.mk (HCM.out.below hb_); clear HCM; have HCM := n_; clear n_
        have n_ := Aside0.mk (HCA.out.below hb_); clear HCA; have HCA := n_; clear n_
        have n_ := Aside0.mk (below_step HB.out hb_); clear HB; have HB := n_; clear n_
        refine hK.out _ _ (lk_keep hb_ hHeld) (fun hHeld => ?_)
        clear hK K
        refine norm_ (a' := ?_) ?_ ?_
        rotate_left
        · show Act.put _ (some 31) _ = _
          simp only [Act.put, List.setIfInBounds_toArray, List.set_cons_zero, List.set_cons_succ, i64_w, i32_w]
          rfl
        refine pure_ (i := 6) (N := some 25) (v := ?_) (a' := ?_) #[true, true, true, true, true, true, true, false, false, false, false, false] rfl rfl (any_of HT_.out (by kernel_rfl)) (fun _ _ _ h => h) (Or.inl ⟨by rfl, ?_⟩) ?_ ?_
        rotate_left
        · intro w'
          go_simp
          with_reducible rfl
        rotate_left
        · simp only [Act.put, List.setIfInBounds_toArray, List.set_cons_zero, List.set_cons_succ, i64_w, i32_w]
          rfl
        refine pure_ (i := 7) (N := some 32) (v := ?_) (a' := ?_) #[true, true, true, true, true, true, true, true, false, false, false, false] rfl rfl (any_of HT_.out (by kernel_rfl)) (fun _ _ _ h => h) (Or.inl ⟨by rfl, ?_⟩) ?_ ?_
        rotate_left
        · intro w'
          go_simp
          with_reducible rfl
        rotate_left
        · simp only [Act.put, List.setIfInBounds_toArray, List.set_cons_zero, List.set_cons_succ, i64_w, i32_w]
          rfl
        refine pure_ (i := 8) (N := some 33) (v := ?_) (a' := ?_) #[true, true, true, true, true, true, true, true, true, false, false, false] rfl rfl (any_of HT_.out (by kernel_rfl)) (fun _ _ _ h => h) (Or.inl ⟨by rfl, ?_⟩) ?_ ?_
        rotate_left
        · intro w'
          go_simp
          with_reducible rfl
        rotate_left
        · simp only [Act.put, List.setIfInBounds_toArray, List.set_cons_zero, List.set_cons_succ, i64_w, i32_w]
          rfl
        refine one_ (i := 9) (N := some 7) #[true, true, true, true, true, true, true, true, true, true, false, false] rfl rfl (one_of HT_.out (by kernel_rfl)) (by decide) (fun K hK => ?_)
        refine box_step (by rfl) (N := 7) rfl (cs := #[.slice none 0 0, .slice none 0 0]) (t := 53) (by first | (go_simp; done) | (go_simp; rfl)) ?_
        intro g7 hg_ w13 hbox_ hb_
        have GE_g7 : Aside0 (w.heap.size ≤ g7) := ⟨by rw [hg_]; exact below_size HB.out⟩
        have NE_g4_g7 : Aside0 (g4 ≠ g7) := ⟨by rw [hg_]; exact Nat.ne_of_lt (blk_lt BK_g4.out)⟩
        have NE_g7_g4 : Aside0 (g7 ≠ g4) := ⟨fun he_ => NE_g4_g7.out he_.symm⟩
        have NE_g5_g7 : Aside0 (g5 ≠ g7) := ⟨by rw [hg_]; exact Nat.ne_of_lt (blk_lt BK_g5.out)⟩
        have NE_g7_g5 : Aside0 (g7 ≠ g5) := ⟨fun he_ => NE_g5_g7.out he_.symm⟩
        have n_ := Aside0.mk (blk_below BK_g4.out hb_); clear BK_g4; have BK_g4 := n_; clear n_
        have n_ := Aside0.mk (blk_below BK_g5.out hb_); clear BK_g5; have BK_g5 := n_; clear n_
        have n_ := Aside0.mk (HCL.out.below hb_); clear HCL; have HCL := n_; clear n_
        have n_ := Aside0.mk (HCM.out.below hb_); clear HCM; have HCM := n_; clear n_
        have n_ := Aside0.mk (HCA.out.below hb_); clear HCA; have HCA := n_; clear n_
        have n_ := Aside0.mk (HCE.out.below hb_); clear HCE; have HCE := n_; clear n_
        have n_ := Aside0.mk (below_step HB.out hb_); clear HB; have HB := n_; clear n_
        have BK_g7 := Aside0.mk hbox_
        clear hbox_ hg_
        refine hK.out _ _ (lk_keep hb_ hHeld) (fun hHeld => ?_)
        clear hK K
        refine norm_ (a' := ?_) ?_ ?_
        rotate_left
        · show Act.put _ (some 7) _ = _
          simp only [Act.put, List.setIfInBounds_toArray, List.set_cons_zero, List.set_cons_succ, i64_w, i32_w]
          rfl
        refine last_ (i := 10) (N := none) #[true, true, true, true, true, true, true, true, true, true, true, false] rfl rfl (one_of HT_.out (by kernel_rfl)) (by decide) (fun K hK => ?_)
        have hs0 : w13.cell? ⟨g7, 0, none⟩ = some (.slice none 0 0) := (blk_cell BK_g7.out 0).trans rfl
        have hs1 : w13.cell? ⟨g7, 1, none⟩ = some (.slice none 0 0) := (blk_cell BK_g7.out 1).trans rfl
        have hf0 := blk_frozen BK_g7.out 0
        have hf1 := blk_frozen BK_g7.out 1
        refine skip_ (w1 := ?_) (by rfl) rfl ?_ ?_
        rotate_left
        · go_simp
          rfl
        refine hK.out _ _ ?_
        clear hK K
        refine pure_ (i := 11) (N := some 8) (v := ?_) (a' := ?_) #[true, true, true, true, true, true, true, true, true, true, true, true] rfl rfl (any_of HT_.out (by kernel_rfl)) (fun _ _ _ h => h) (Or.inl ⟨by rfl, ?_⟩) ?_ ?_
        rotate_left
        · intro w'
          go_simp
          with_reducible rfl
        rotate_left
        · simp only [Act.put, List.setIfInBounds_toArray, List.set_cons_zero, List.set_cons_succ, i64_w, i32_w]
          rfl
        refine done_ (done_of HT_.out (by kernel_rfl)) ?_
        clear hHeld
        have n_ := Aside0.mk (blk_far (blk_far BK_g4.out (p := ⟨g7, 0, none⟩) NE_g4_g7.out (.slice E0 (ws_step H a).length e0)) (p := ⟨g7, 1, none⟩) NE_g4_g7.out (.slice E1 0 e1)); clear BK_g4; have BK_g4 := n_; clear n_
        have n_ := Aside0.mk (blk_far (blk_far BK_g5.out (p := ⟨g7, 0, none⟩) NE_g5_g7.out (.slice E0 (ws_step H a).length e0)) (p := ⟨g7, 1, none⟩) NE_g5_g7.out (.slice E1 0 e1)); clear BK_g5; have BK_g5 := n_; clear n_
        have n_ := Aside0.mk ((HCL.out.set BK_g7.out (by decide) 0 (.slice E0 (ws_step H a).length e0)).set (blk_put (cs' := #[.slice E0 (ws_step H a).length e0, .slice none 0 0]) BK_g7.out 0 (.slice E0 (ws_step H a).length e0) rfl) (by decide) 1 (.slice E1 0 e1)); clear HCL; have HCL := n_; clear n_
        have n_ := Aside0.mk ((HCM.out.set BK_g7.out (by decide) 0 (.slice E0 (ws_step H a).length e0)).set (blk_put (cs' := #[.slice E0 (ws_step H a).length e0, .slice none 0 0]) BK_g7.out 0 (.slice E0 (ws_step H a).length e0) rfl) (by decide) 1 (.slice E1 0 e1)); clear HCM; have HCM := n_; clear n_
        have n_ := Aside0.mk ((HCA.out.set BK_g7.out (by decide) 0 (.slice E0 (ws_step H a).length e0)).set (blk_put (cs' := #[.slice E0 (ws_step H a).length e0, .slice none 0 0]) BK_g7.out 0 (.slice E0 (ws_step H a).length e0) rfl) (by decide) 1 (.slice E1 0 e1)); clear HCA; have HCA := n_; clear n_
        have n_ := Aside0.mk ((HCE.out.set BK_g7.out (by decide) 0 (.slice E0 (ws_step H a).length e0)).set (blk_put (cs' := #[.slice E0 (ws_step H a).length e0, .slice none 0 0]) BK_g7.out 0 (.slice E0 (ws_step H a).length e0) rfl) (by decide) 1 (.slice E1 0 e1)); clear HCE; have HCE := n_; clear n_
        have n_ := Aside0.mk (below_set (j := 1) (v := .slice E1 0 e1) (below_set (j := 0) (v := .slice E0 (ws_step H a).length e0) HB.out GE_g7.out) GE_g7.out); clear HB; have HB := n_; clear n_
        have n_ := Aside0.mk (blk_put (cs' := #[.slice E0 (ws_step H a).length e0, .slice E1 0 e1]) (blk_put (cs' := #[.slice E0 (ws_step H a).length e0, .slice none 0 0]) BK_g7.out 0 (.slice E0 (ws_step H a).length e0) rfl) 1 (.slice E1 0 e1) rfl); clear BK_g7; have BK_g7 := n_; clear n_
        clear hs0 hs1 hf0 hf1
        generalize (w13.setCell ⟨g7, 0, none⟩ (.slice E0 (ws_step H a).length e0)).setCell ⟨g7, 1, none⟩ (.slice E1 0 e1) = w14 at BK_g4 BK_g5 BK_g7 HCL HCM HCA HCE HB ⊢
        try go_wp2
        refine start_ (n := 16) (S := (fun w' => w'.cell? ⟨g5, 0, none⟩ = some (.slice D0 M.length d0) ∧ w'.cell? ⟨g5, 1, none⟩ = some (.slice D1 0 d1) ∧ w'.cell? ⟨ga, jj * 3, none⟩ = some (.int .i64 b.f0) ∧ w'.cell? ⟨ga, jj * 3 + 1, none⟩ = some (.int .i64 b.f1) ∧ w'.cell? ⟨ga, jj * 3 + 2, none⟩ = some (.int .i64 b.f2))) (ds := [14]) #[false, false, false, false, false, false, false, false, false, false, false, false, false, false, false, false] (by kernel_rfl) rfl rfl ⟨(blk_cell BK_g5.out 0).trans rfl, (blk_cell BK_g5.out 1).trans rfl, (ws_cells_of HCA.out.C HJB.out).1, (ws_cells_of HCA.out.C HJB.out).2.1, (ws_cells_of HCA.out.C HJB.out).2.2⟩ (fun hHeld => ?_); refine with_tabW ws_l10_tab ws_l10_bits (fun HT_ HW_ => ?_)
        have n_ := Aside0.mk (blk_drew BK_g4.out); clear BK_g4; have BK_g4 := n_; clear n_
        have n_ := Aside0.mk (blk_drew BK_g5.out); clear BK_g5; have BK_g5 := n_; clear n_
        have n_ := Aside0.mk (blk_drew BK_g7.out); clear BK_g7; have BK_g7 := n_; clear n_
        have n_ := Aside0.mk (HCL.out.below (below_drew (Below.refl _ _))); clear HCL; have HCL := n_; clear n_
        have n_ := Aside0.mk (HCM.out.below (below_drew (Below.refl _ _))); clear HCM; have HCM := n_; clear n_
        have n_ := Aside0.mk (HCA.out.below (below_drew (Below.refl _ _))); clear HCA; have HCA := n_; clear n_
        have n_ := Aside0.mk (HCE.out.below (below_drew (Below.refl _ _))); clear HCE; have HCE := n_; clear n_
        have n_ := Aside0.mk (below_drew1 HB.out); clear HB; have HB := n_; clear n_
        generalize w14.drew = w15 at BK_g4 BK_g5 BK_g7 HCL HCM HCA HCE HB hHeld ⊢
        refine take_ (i := 0) (N := some 35) (v := ?_) (a' := ?_) #[true, false, false, false, false, false, false, false, false, false, false, false, false, false, false, false] rfl rfl (take_ofW HT_.out HW_.out (by kernel_rfl)) (fun _ _ _ h => h) (Or.inl ⟨by rfl, ?_⟩) hHeld ?_ ?_
        rotate_left
        · rintro w' ⟨s0, s1, s2, s3, s4⟩
          go_simp
          with_reducible rfl
        rotate_left
        · simp only [Act.put, List.setIfInBounds_toArray, List.set_cons_zero, List.set_cons_succ, i64_w, i32_w]
          rfl
        refine pure_ (i := 1) (N := some 36) (v := ?_) (a' := ?_) #[true, true, false, false, false, false, false, false, false, false, false, false, false, false, false, false] rfl rfl (any_of HT_.out (by kernel_rfl)) (fun _ _ _ h => h) (Or.inl ⟨by rfl, ?_⟩) ?_ ?_
        rotate_left
        · intro w'
          go_simp
          with_reducible rfl
        rotate_left
        · simp only [Act.put, List.setIfInBounds_toArray, List.set_cons_zero, List.set_cons_succ, i64_w, i32_w]
          rfl
        refine pure_ (i := 2) (N := some 37) (v := ?_) (a' := ?_) #[true, true, true, false, false, false, false, false, false, false, false, false, false, false, false, false] rfl rfl (any_of HT_.out (by kernel_rfl)) (fun _ _ _ h => h) (Or.inl ⟨by rfl, ?_⟩) ?_ ?_
        rotate_left
        · intro w'
          go_simp
          with_reducible rfl
        rotate_left
        · simp only [Act.put, List.setIfInBounds_toArray, List.set_cons_zero, List.set_cons_succ, i64_w, i32_w]
          rfl
        refine pure_ (i := 3) (N := some 38) (v := ?_) (a' := ?_) #[true, true, true, true, false, false, false, false, false, false, false, false, false, false, false, false] rfl rfl (any_of HT_.out (by kernel_rfl)) (fun _ _ _ h => h) (Or.inl ⟨by rfl, ?_⟩) ?_ ?_
        rotate_left
        · intro w'
          go_simp
          with_reducible rfl
        rotate_left
        · simp only [Act.put, List.setIfInBounds_toArray, List.set_cons_zero, List.set_cons_succ, i64_w, i32_w]
          rfl
        refine pure_ (i := 4) (N := some 39) (v := ?_) (a' := ?_) #[true, true, true, true, true, false, false, false, false, false, false, false, false, false, false, false] rfl rfl (any_of HT_.out (by kernel_rfl)) (fun _ _ _ h => h) (Or.inl ⟨by rfl, ?_⟩) ?_ ?_
        rotate_left
        · intro w'
          go_simp
          with_reducible rfl
        rotate_left
        · simp only [Act.put, List.setIfInBounds_toArray, List.set_cons_zero, List.set_cons_succ, i64_w, i32_w]
          rfl
        refine pure_ (i := 5) (N := some 40) (v := ?_) (a' := ?_) #[true, true, true, true, true, true, false, false, false, false, false, false, false, false, false, false] rfl rfl (any_of HT_.out (by kernel_rfl)) (fun _ _ _ h => h) (Or.inl ⟨by rfl, ?_⟩) ?_ ?_
        rotate_left
        · intro w'
          go_simp
          with_reducible rfl
        rotate_left
        · simp only [Act.put, List.setIfInBounds_toArray, List.set_cons_zero, List.set_cons_succ, i64_w, i32_w]
          rfl
        refine pure_ (i := 6) (N := some 41) (v := ?_) (a' := ?_) #[true, true, true, true, true, true, true, false, false, false, false, false, false, false, false, false] rfl rfl (any_of HT_.out (by kernel_rfl)) (fun _ _ _ h => h) (Or.inl ⟨by rfl, ?_⟩) ?_ ?_
        rotate_left
        · intro w'
          go_simp
          rw [HJJ.out]
        rotate_left
        · simp only [Act.put, List.setIfInBounds_toArray, List.set_cons_zero, List.set_cons_succ, i64_w, i32_w]
          rfl
        refine pure_ (i := 7) (N := some 42) (v := ?_) (a' := ?_) #[true, true, true, true, true, true, true, true, false, false, false, false, false, false, false, false] rfl rfl (any_of HT_.out (by kernel_rfl)) (fun _ _ _ h => h) (Or.inl ⟨by rfl, ?_⟩) ?_ ?_
        rotate_left
        · intro w'
          go_simp
          with_reducible rfl
        rotate_left
        · simp only [Act.put, List.setIfInBounds_toArray, List.set_cons_zero, List.set_cons_succ, i64_w, i32_w]
          rfl
        refine take_ (i := 8) (N := some 43) (v := ?_) (a' := ?_) #[true, true, true, true, true, true, true, true, true, false, false, false, false, false, false, false] rfl rfl (take_ofW HT_.out HW_.out (by kernel_rfl)) (fun _ _ _ h => h) (Or.inl ⟨by rfl, ?_⟩) hHeld ?_ ?_
        rotate_left
        · rintro w' ⟨s0, s1, s2, s3, s4⟩
          go_simp
          with_reducible rfl
        rotate_left
        · simp only [Act.put, List.setIfInBounds_toArray, List.set_cons_zero, List.set_cons_succ, i64_w, i32_w]
          rfl
        refine two_ (i := 9) (j := 13) (Ni := some 44) (Nj := some 9) #[true, true, true, true, true, true, true, true, true, true, false, false, false, false, false, false] #[true, true, true, true, true, true, true, true, true, false, false, false, false, true, false, false] rfl rfl rfl rfl (two_of HT_.out (by kernel_rfl)) (by decide) (by decide) (fun K hK => ?_) (fun K hK => ?_)
        · skip
          refine goes_ Try.func30 (by kernel_rfl) rfl #[.agg #[.slice D0 M.length d0, .slice D1 0 d1], .agg #[.int .i64 b.f0, .int .i64 b.f1, .int .i64 b.f2]] (by rfl) rfl rfl (by (try simp only [List.map_toArray, List.map_cons, List.map_nil]); first | done | rfl) ?_
          with_reducible refine (ws_ask D0 d0 M D1 d1 b _ HCM.out HBM.out HLM.out HGM.out HFB.out).mono ?_
          rintro e w16 ⟨F0, f0, F1, f1, rfl, ho_, hoc_, hb_⟩
          refine ⟨_, rfl, ?_⟩
          have HFF := Aside0.mk hoc_
          have HCF := Aside0.mk ho_
          clear ho_ hoc_
          have n_ := Aside0.mk (blk_below BK_g4.out hb_); clear BK_g4; have BK_g4 := n_; clear n_
          have n_ := Aside0.mk (blk_below BK_g5.out hb_); clear BK_g5; have BK_g5 := n_; clear n_
          have n_ := Aside0.mk (blk_below BK_g7.out hb_); clear BK_g7; have BK_g7 := n_; clear n_
          have n_ := Aside0.mk (HCL.out.below hb_); clear HCL; have HCL := n_; clear n_
          have n_ := Aside0.mk (HCM.out.below hb_); clear HCM; have HCM := n_; clear n_
          have n_ := Aside0.mk (HCA.out.below hb_); clear HCA; have HCA := n_; clear n_
          have n_ := Aside0.mk (HCE.out.below hb_); clear HCE; have HCE := n_; clear n_
          have n_ := Aside0.mk (below_step HB.out hb_); clear HB; have HB := n_; clear n_
          refine hK.out _ _ (lk_keep hb_ hHeld) (fun hHeld => ?_)
          clear hK K
          refine norm_ (a' := ?_) ?_ ?_
          rotate_left
          · show Act.put _ (some 44) _ = _
            simp only [Act.put, List.setIfInBounds_toArray, List.set_cons_zero, List.set_cons_succ, i64_w, i32_w]
            rfl
          refine pure_ (i := 10) (N := some 34) (v := ?_) (a' := ?_) #[true, true, true, true, true, true, true, true, true, true, true, false, false, false, false, false] rfl rfl (any_of HT_.out (by kernel_rfl)) (fun _ _ _ h => h) (Or.inl ⟨by rfl, ?_⟩) ?_ ?_
          rotate_left
          · intro w'
            go_simp
            with_reducible rfl
          rotate_left
          · simp only [Act.put, List.setIfInBounds_toArray, List.set_cons_zero, List.set_cons_succ, i64_w, i32_w]
            rfl
          refine pure_ (i := 11) (N := some 45) (v := ?_) (a' := ?_) #[true, true, true, true, true, true, true, true, true, true, true, true, false, false, false, false] rfl rfl (any_of HT_.out (by kernel_rfl)) (fun _ _ _ h => h) (Or.inl ⟨by rfl, ?_⟩) ?_ ?_
          rotate_left
          · intro w'
            go_simp
            with_reducible rfl
          rotate_left
          · simp only [Act.put, List.setIfInBounds_toArray, List.set_cons_zero, List.set_cons_succ, i64_w, i32_w]
            rfl
          refine pure_ (i := 12) (N := some 46) (v := ?_) (a' := ?_) #[true, true, true, true, true, true, true, true, true, true, true, true, true, false, false, false] rfl rfl (any_of HT_.out (by kernel_rfl)) (fun _ _ _ h => h) (Or.inl ⟨by rfl, ?_⟩) ?_ ?_
          rotate_left
          · intro w'
            go_simp
            with_reducible rfl
          rotate_left
          · simp only [Act.put, List.setIfInBounds_toArray, List.set_cons_zero, List.set_cons_succ, i64_w, i32_w]
            rfl
          refine one_ (i := 13) (N := some 9) #[true, true, true, true, true, true, true, true, true, true, true, true, true, true, false, false] rfl rfl (one_of HT_.out (by kernel_rfl)) (by decide) (fun K hK => ?_)
          refine box_step (by rfl) (N := 9) rfl (cs := #[.slice none 0 0, .slice none 0 0]) (t := 53) (by first | (go_simp; done) | (go_simp; rfl)) ?_
          intro g9 hg_ w17 hbox_ hb_
          have GE_g9 : Aside0 (w.heap.size ≤ g9) := ⟨by rw [hg_]; exact below_size HB.out⟩
          have NE_g4_g9 : Aside0 (g4 ≠ g9) := ⟨by rw [hg_]; exact Nat.ne_of_lt (blk_lt BK_g4.out)⟩
          have NE_g9_g4 : Aside0 (g9 ≠ g4) := ⟨fun he_ => NE_g4_g9.out he_.symm⟩
          have NE_g5_g9 : Aside0 (g5 ≠ g9) := ⟨by rw [hg_]; exact Nat.ne_of_lt (blk_lt BK_g5.out)⟩
          have NE_g9_g5 : Aside0 (g9 ≠ g5) := ⟨fun he_ => NE_g5_g9.out he_.symm⟩
          have NE_g7_g9 : Aside0 (g7 ≠ g9) := ⟨by rw [hg_]; exact Nat.ne_of_lt (blk_lt BK_g7.out)⟩
          have NE_g9_g7 : Aside0 (g9 ≠ g7) := ⟨fun he_ => NE_g7_g9.out he_.symm⟩
          have n_ := Aside0.mk (blk_below BK_g4.out hb_); clear BK_g4; have BK_g4 := n_; clear n_
          have n_ := Aside0.mk (blk_below BK_g5.out hb_); clear BK_g5; have BK_g5 := n_; clear n_
          have n_ := Aside0.mk (blk_below BK_g7.out hb_); clear BK_g7; have BK_g7 := n_; clear n_
          have n_ := Aside0.mk (HCL.out.below hb_); clear HCL; have HCL := n_; clear n_
          have n_ := Aside0.mk (HCM.out.below hb_); clear HCM; have HCM := n_; clear n_
          have n_ := Aside0.mk (HCA.out.below hb_); clear HCA; have HCA := n_; clear n_
          have n_ := Aside0.mk (HCE.out.below hb_); clear HCE; have HCE := n_; clear n_
          have n_ := Aside0.mk (HCF.out.below hb_); clear HCF; have HCF := n_; clear n_
          have n_ := Aside0.mk (below_step HB.out hb_); clear HB; have HB := n_; clear n_
          have BK_g9 := Aside0.mk hbox_
          clear hbox_ hg_
          refine hK.out _ _ (lk_keep hb_ hHeld) (fun hHeld => ?_)
          clear hK K
          refine norm_ (a' := ?_) ?_ ?_
          rotate_left
          · show Act.put _ (some 9) _ = _
            simp only [Act.put, List.setIfInBounds_toArray, List.set_cons_zero, List.set_cons_succ, i64_w, i32_w]
            rfl
          refine last_ (i := 14) (N := none) #[true, true, true, true, true, true, true, true, true, true, true, true, true, true, true, false] rfl rfl (one_of HT_.out (by kernel_rfl)) (by decide) (fun K hK => ?_)
          have hs0 : w17.cell? ⟨g9, 0, none⟩ = some (.slice none 0 0) := (blk_cell BK_g9.out 0).trans rfl
          have hs1 : w17.cell? ⟨g9, 1, none⟩ = some (.slice none 0 0) := (blk_cell BK_g9.out 1).trans rfl
          have hf0 := blk_frozen BK_g9.out 0
          have hf1 := blk_frozen BK_g9.out 1
          refine skip_ (w1 := ?_) (by rfl) rfl ?_ ?_
          rotate_left
          · go_simp
            rfl
          refine hK.out _ _ ?_
          clear hK K
          refine pure_ (i := 15) (N := some 10) (v := ?_) (a' := ?_) #[true, true, true, true, true, true, true, true, true, true, true, true, true, true, true, true] rfl rfl (any_of HT_.out (by kernel_rfl)) (fun _ _ _ h => h) (Or.inl ⟨by rfl, ?_⟩) ?_ ?_
          rotate_left
          · intro w'
            go_simp
            with_reducible rfl
          rotate_left
          · simp only [Act.put, List.setIfInBounds_toArray, List.set_cons_zero, List.set_cons_succ, i64_w, i32_w]
            rfl
          refine done_ (done_of HT_.out (by kernel_rfl)) ?_
          clear hHeld
          have n_ := Aside0.mk (blk_far (blk_far BK_g4.out (p := ⟨g9, 0, none⟩) NE_g4_g9.out (.slice F0 (ws_step M b).length f0)) (p := ⟨g9, 1, none⟩) NE_g4_g9.out (.slice F1 0 f1)); clear BK_g4; have BK_g4 := n_; clear n_
          have n_ := Aside0.mk (blk_far (blk_far BK_g5.out (p := ⟨g9, 0, none⟩) NE_g5_g9.out (.slice F0 (ws_step M b).length f0)) (p := ⟨g9, 1, none⟩) NE_g5_g9.out (.slice F1 0 f1)); clear BK_g5; have BK_g5 := n_; clear n_
          have n_ := Aside0.mk (blk_far (blk_far BK_g7.out (p := ⟨g9, 0, none⟩) NE_g7_g9.out (.slice F0 (ws_step M b).length f0)) (p := ⟨g9, 1, none⟩) NE_g7_g9.out (.slice F1 0 f1)); clear BK_g7; have BK_g7 := n_; clear n_
          have n_ := Aside0.mk ((HCL.out.set BK_g9.out (by decide) 0 (.slice F0 (ws_step M b).length f0)).set (blk_put (cs' := #[.slice F0 (ws_step M b).length f0, .slice none 0 0]) BK_g9.out 0 (.slice F0 (ws_step M b).length f0) rfl) (by decide) 1 (.slice F1 0 f1)); clear HCL; have HCL := n_; clear n_
          have n_ := Aside0.mk ((HCM.out.set BK_g9.out (by decide) 0 (.slice F0 (ws_step M b).length f0)).set (blk_put (cs' := #[.slice F0 (ws_step M b).length f0, .slice none 0 0]) BK_g9.out 0 (.slice F0 (ws_step M b).length f0) rfl) (by decide) 1 (.slice F1 0 f1)); clear HCM; have HCM := n_; clear n_
          have n_ := Aside0.mk ((HCA.out.set BK_g9.out (by decide) 0 (.slice F0 (ws_step M b).length f0)).set (blk_put (cs' := #[.slice F0 (ws_step M b).length f0, .slice none 0 0]) BK_g9.out 0 (.slice F0 (ws_step M b).length f0) rfl) (by decide) 1 (.slice F1 0 f1)); clear HCA; have HCA := n_; clear n_
          have n_ := Aside0.mk ((HCE.out.set BK_g9.out (by decide) 0 (.slice F0 (ws_step M b).length f0)).set (blk_put (cs' := #[.slice F0 (ws_step M b).length f0, .slice none 0 0]) BK_g9.out 0 (.slice F0 (ws_step M b).length f0) rfl) (by decide) 1 (.slice F1 0 f1)); clear HCE; have HCE := n_; clear n_
          have n_ := Aside0.mk ((HCF.out.set BK_g9.out (by decide) 0 (.slice F0 (ws_step M b).length f0)).set (blk_put (cs' := #[.slice F0 (ws_step M b).length f0, .slice none 0 0]) BK_g9.out 0 (.slice F0 (ws_step M b).length f0) rfl) (by decide) 1 (.slice F1 0 f1)); clear HCF; have HCF := n_; clear n_
          have n_ := Aside0.mk (below_set (j := 1) (v := .slice F1 0 f1) (below_set (j := 0) (v := .slice F0 (ws_step M b).length f0) HB.out GE_g9.out) GE_g9.out); clear HB; have HB := n_; clear n_
          have n_ := Aside0.mk (blk_put (cs' := #[.slice F0 (ws_step M b).length f0, .slice F1 0 f1]) (blk_put (cs' := #[.slice F0 (ws_step M b).length f0, .slice none 0 0]) BK_g9.out 0 (.slice F0 (ws_step M b).length f0) rfl) 1 (.slice F1 0 f1) rfl); clear BK_g9; have BK_g9 := n_; clear n_
          clear hs0 hs1 hf0 hf1
          generalize (w17.setCell ⟨g9, 0, none⟩ (.slice F0 (ws_step M b).length f0)).setCell ⟨g9, 1, none⟩ (.slice F1 0 f1) = w18 at BK_g4 BK_g5 BK_g7 BK_g9 HCL HCM HCA HCE HCF HB ⊢
          try go_wp2
          refine start_ (n := 4) (S := (fun w' => w'.cell? ⟨g7, 0, none⟩ = some (.slice E0 (ws_step H a).length e0) ∧ w'.cell? ⟨g7, 1, none⟩ = some (.slice E1 0 e1) ∧ w'.cell? ⟨g9, 0, none⟩ = some (.slice F0 (ws_step M b).length f0) ∧ w'.cell? ⟨g9, 1, none⟩ = some (.slice F1 0 f1))) (ds := [3]) #[false, false, false, false] (by kernel_rfl) rfl rfl ⟨(blk_cell BK_g7.out 0).trans rfl, (blk_cell BK_g7.out 1).trans rfl, (blk_cell BK_g9.out 0).trans rfl, (blk_cell BK_g9.out 1).trans rfl⟩ (fun hHeld => ?_); refine with_tabW ws_l13_tab ws_l13_bits (fun HT_ HW_ => ?_)
          have n_ := Aside0.mk (blk_drew BK_g4.out); clear BK_g4; have BK_g4 := n_; clear n_
          have n_ := Aside0.mk (blk_drew BK_g5.out); clear BK_g5; have BK_g5 := n_; clear n_
          have n_ := Aside0.mk (blk_drew BK_g7.out); clear BK_g7; have BK_g7 := n_; clear n_
          have n_ := Aside0.mk (blk_drew BK_g9.out); clear BK_g9; have BK_g9 := n_; clear n_
          have n_ := Aside0.mk (HCL.out.below (below_drew (Below.refl _ _))); clear HCL; have HCL := n_; clear n_
          have n_ := Aside0.mk (HCM.out.below (below_drew (Below.refl _ _))); clear HCM; have HCM := n_; clear n_
          have n_ := Aside0.mk (HCA.out.below (below_drew (Below.refl _ _))); clear HCA; have HCA := n_; clear n_
          have n_ := Aside0.mk (HCE.out.below (below_drew (Below.refl _ _))); clear HCE; have HCE := n_; clear n_
          have n_ := Aside0.mk (HCF.out.below (below_drew (Below.refl _ _))); clear HCF; have HCF := n_; clear n_
          have n_ := Aside0.mk (below_drew1 HB.out); clear HB; have HB := n_; clear n_
          generalize w18.drew = w19 at BK_g4 BK_g5 BK_g7 BK_g9 HCL HCM HCA HCE HCF HB hHeld ⊢
          refine take_ (i := 0) (N := some 53) (v := ?_) (a' := ?_) #[true, false, false, false] rfl rfl (take_ofW HT_.out HW_.out (by kernel_rfl)) (fun _ _ _ h => h) (Or.inl ⟨by rfl, ?_⟩) hHeld ?_ ?_
          rotate_left
          · rintro w' ⟨s0, s1, s2, s3⟩
            go_simp
            with_reducible rfl
          rotate_left
          · simp only [Act.put, List.setIfInBounds_toArray, List.set_cons_zero, List.set_cons_succ, i64_w, i32_w]
            rfl
          refine take_ (i := 1) (N := some 54) (v := ?_) (a' := ?_) #[true, true, false, false] rfl rfl (take_ofW HT_.out HW_.out (by kernel_rfl)) (fun _ _ _ h => h) (Or.inl ⟨by rfl, ?_⟩) hHeld ?_ ?_
          rotate_left
          · rintro w' ⟨s0, s1, s2, s3⟩
            go_simp
            with_reducible rfl
          rotate_left
          · simp only [Act.put, List.setIfInBounds_toArray, List.set_cons_zero, List.set_cons_succ, i64_w, i32_w]
            rfl
          refine one_ (i := 2) (N := none) #[true, true, true, false] rfl rfl (one_of HT_.out (by kernel_rfl)) (by decide) (fun K hK => ?_)
          have hs0 : w19.cell? ⟨g4, 0, none⟩ = some (.slice B0 H.length b0) := (blk_cell BK_g4.out 0).trans rfl
          have hs1 : w19.cell? ⟨g4, 1, none⟩ = some (.slice B1 0 b1) := (blk_cell BK_g4.out 1).trans rfl
          have hf0 := blk_frozen BK_g4.out 0
          have hf1 := blk_frozen BK_g4.out 1
          refine skip_ (w1 := ?_) (by rfl) rfl ?_ ?_
          rotate_left
          · go_simp
            rfl
          clear hHeld
          have n_ := Aside0.mk (blk_far (blk_far BK_g5.out (p := ⟨g4, 0, none⟩) NE_g5_g4.out (.slice E0 (ws_step H a).length e0)) (p := ⟨g4, 1, none⟩) NE_g5_g4.out (.slice E1 0 e1)); clear BK_g5; have BK_g5 := n_; clear n_
          have n_ := Aside0.mk (blk_far (blk_far BK_g7.out (p := ⟨g4, 0, none⟩) NE_g7_g4.out (.slice E0 (ws_step H a).length e0)) (p := ⟨g4, 1, none⟩) NE_g7_g4.out (.slice E1 0 e1)); clear BK_g7; have BK_g7 := n_; clear n_
          have n_ := Aside0.mk (blk_far (blk_far BK_g9.out (p := ⟨g4, 0, none⟩) NE_g9_g4.out (.slice E0 (ws_step H a).length e0)) (p := ⟨g4, 1, none⟩) NE_g9_g4.out (.slice E1 0 e1)); clear BK_g9; have BK_g9 := n_; clear n_
          have n_ := Aside0.mk ((HCL.out.set BK_g4.out (by decide) 0 (.slice E0 (ws_step H a).length e0)).set (blk_put (cs' := #[.slice E0 (ws_step H a).length e0, .slice B1 0 b1]) BK_g4.out 0 (.slice E0 (ws_step H a).length e0) rfl) (by decide) 1 (.slice E1 0 e1)); clear HCL; have HCL := n_; clear n_
          have n_ := Aside0.mk ((HCM.out.set BK_g4.out (by decide) 0 (.slice E0 (ws_step H a).length e0)).set (blk_put (cs' := #[.slice E0 (ws_step H a).length e0, .slice B1 0 b1]) BK_g4.out 0 (.slice E0 (ws_step H a).length e0) rfl) (by decide) 1 (.slice E1 0 e1)); clear HCM; have HCM := n_; clear n_
          have n_ := Aside0.mk ((HCA.out.set BK_g4.out (by decide) 0 (.slice E0 (ws_step H a).length e0)).set (blk_put (cs' := #[.slice E0 (ws_step H a).length e0, .slice B1 0 b1]) BK_g4.out 0 (.slice E0 (ws_step H a).length e0) rfl) (by decide) 1 (.slice E1 0 e1)); clear HCA; have HCA := n_; clear n_
          have n_ := Aside0.mk ((HCE.out.set BK_g4.out (by decide) 0 (.slice E0 (ws_step H a).length e0)).set (blk_put (cs' := #[.slice E0 (ws_step H a).length e0, .slice B1 0 b1]) BK_g4.out 0 (.slice E0 (ws_step H a).length e0) rfl) (by decide) 1 (.slice E1 0 e1)); clear HCE; have HCE := n_; clear n_
          have n_ := Aside0.mk ((HCF.out.set BK_g4.out (by decide) 0 (.slice E0 (ws_step H a).length e0)).set (blk_put (cs' := #[.slice E0 (ws_step H a).length e0, .slice B1 0 b1]) BK_g4.out 0 (.slice E0 (ws_step H a).length e0) rfl) (by decide) 1 (.slice E1 0 e1)); clear HCF; have HCF := n_; clear n_
          have n_ := Aside0.mk (below_set (j := 1) (v := .slice E1 0 e1) (below_set (j := 0) (v := .slice E0 (ws_step H a).length e0) HB.out GE_g4.out) GE_g4.out); clear HB; have HB := n_; clear n_
          have n_ := Aside0.mk (blk_put (cs' := #[.slice E0 (ws_step H a).length e0, .slice E1 0 e1]) (blk_put (cs' := #[.slice E0 (ws_step H a).length e0, .slice B1 0 b1]) BK_g4.out 0 (.slice E0 (ws_step H a).length e0) rfl) 1 (.slice E1 0 e1) rfl); clear BK_g4; have BK_g4 := n_; clear n_
          clear hs0 hs1 hf0 hf1
          generalize (w19.setCell ⟨g4, 0, none⟩ (.slice E0 (ws_step H a).length e0)).setCell ⟨g4, 1, none⟩ (.slice E1 0 e1) = w20 at BK_g4 BK_g5 BK_g7 BK_g9 HCL HCM HCA HCE HCF HB ⊢
          refine hK.out _ _ ⟨(blk_cell BK_g7.out 0).trans rfl, (blk_cell BK_g7.out 1).trans rfl, (blk_cell BK_g9.out 0).trans rfl, (blk_cell BK_g9.out 1).trans rfl⟩ (fun hHeld => ?_)
          clear hK K
          refine last_ (i := 3) (N := none) #[true, true, true, true] rfl rfl (one_of HT_.out (by kernel_rfl)) (by decide) (fun K hK => ?_)
          have hs0 : w20.cell? ⟨g5, 0, none⟩ = some (.slice D0 M.length d0) := (blk_cell BK_g5.out 0).trans rfl
          have hs1 : w20.cell? ⟨g5, 1, none⟩ = some (.slice D1 0 d1) := (blk_cell BK_g5.out 1).trans rfl
          have hf0 := blk_frozen BK_g5.out 0
          have hf1 := blk_frozen BK_g5.out 1
          refine skip_ (w1 := ?_) (by rfl) rfl ?_ ?_
          rotate_left
          · go_simp
            rfl
          refine hK.out _ _ ?_
          clear hK K hHeld
          refine done_ (done_of HT_.out (by kernel_rfl)) ?_
          have n_ := Aside0.mk (blk_far (blk_far BK_g4.out (p := ⟨g5, 0, none⟩) NE_g4_g5.out (.slice F0 (ws_step M b).length f0)) (p := ⟨g5, 1, none⟩) NE_g4_g5.out (.slice F1 0 f1)); clear BK_g4; have BK_g4 := n_; clear n_
          have n_ := Aside0.mk (blk_far (blk_far BK_g7.out (p := ⟨g5, 0, none⟩) NE_g7_g5.out (.slice F0 (ws_step M b).length f0)) (p := ⟨g5, 1, none⟩) NE_g7_g5.out (.slice F1 0 f1)); clear BK_g7; have BK_g7 := n_; clear n_
          have n_ := Aside0.mk (blk_far (blk_far BK_g9.out (p := ⟨g5, 0, none⟩) NE_g9_g5.out (.slice F0 (ws_step M b).length f0)) (p := ⟨g5, 1, none⟩) NE_g9_g5.out (.slice F1 0 f1)); clear BK_g9; have BK_g9 := n_; clear n_
          have n_ := Aside0.mk ((HCL.out.set BK_g5.out (by decide) 0 (.slice F0 (ws_step M b).length f0)).set (blk_put (cs' := #[.slice F0 (ws_step M b).length f0, .slice D1 0 d1]) BK_g5.out 0 (.slice F0 (ws_step M b).length f0) rfl) (by decide) 1 (.slice F1 0 f1)); clear HCL; have HCL := n_; clear n_
          have n_ := Aside0.mk ((HCM.out.set BK_g5.out (by decide) 0 (.slice F0 (ws_step M b).length f0)).set (blk_put (cs' := #[.slice F0 (ws_step M b).length f0, .slice D1 0 d1]) BK_g5.out 0 (.slice F0 (ws_step M b).length f0) rfl) (by decide) 1 (.slice F1 0 f1)); clear HCM; have HCM := n_; clear n_
          have n_ := Aside0.mk ((HCA.out.set BK_g5.out (by decide) 0 (.slice F0 (ws_step M b).length f0)).set (blk_put (cs' := #[.slice F0 (ws_step M b).length f0, .slice D1 0 d1]) BK_g5.out 0 (.slice F0 (ws_step M b).length f0) rfl) (by decide) 1 (.slice F1 0 f1)); clear HCA; have HCA := n_; clear n_
          have n_ := Aside0.mk ((HCE.out.set BK_g5.out (by decide) 0 (.slice F0 (ws_step M b).length f0)).set (blk_put (cs' := #[.slice F0 (ws_step M b).length f0, .slice D1 0 d1]) BK_g5.out 0 (.slice F0 (ws_step M b).length f0) rfl) (by decide) 1 (.slice F1 0 f1)); clear HCE; have HCE := n_; clear n_
          have n_ := Aside0.mk ((HCF.out.set BK_g5.out (by decide) 0 (.slice F0 (ws_step M b).length f0)).set (blk_put (cs' := #[.slice F0 (ws_step M b).length f0, .slice D1 0 d1]) BK_g5.out 0 (.slice F0 (ws_step M b).length f0) rfl) (by decide) 1 (.slice F1 0 f1)); clear HCF; have HCF := n_; clear n_
          have n_ := Aside0.mk (below_set (j := 1) (v := .slice F1 0 f1) (below_set (j := 0) (v := .slice F0 (ws_step M b).length f0) HB.out GE_g5.out) GE_g5.out); clear HB; have HB := n_; clear n_
          have n_ := Aside0.mk (blk_put (cs' := #[.slice F0 (ws_step M b).length f0, .slice F1 0 f1]) (blk_put (cs' := #[.slice F0 (ws_step M b).length f0, .slice D1 0 d1]) BK_g5.out 0 (.slice F0 (ws_step M b).length f0) rfl) 1 (.slice F1 0 f1) rfl); clear BK_g5; have BK_g5 := n_; clear n_
          clear hs0 hs1 hf0 hf1
          generalize (w20.setCell ⟨g5, 0, none⟩ (.slice F0 (ws_step M b).length f0)).setCell ⟨g5, 1, none⟩ (.slice F1 0 f1) = w21 at BK_g4 BK_g5 BK_g7 BK_g9 HCL HCM HCA HCE HCF HB ⊢
          try go_wp2
          go_roundg (n - (kk + 1))
          case measure => omega
          case rel => exact ⟨kk + 1, E0, e0, E1, e1, F0, f0, F1, f1, by go_num, by omega, by omega, ⟨by rw [HSH.out]; exact BK_g4.out⟩, ⟨by rw [HSM.out]; exact BK_g5.out⟩, ⟨by rw [HSH.out]; exact ⟨HCE.out, HEE.out⟩⟩, ⟨by rw [HSM.out]; exact ⟨HCF.out, HFF.out⟩⟩, HCA, HB⟩
        · skip
          refine box_step (by rfl) (N := 9) rfl (cs := #[.slice none 0 0, .slice none 0 0]) (t := 53) (by first | (go_simp; done) | (go_simp; rfl)) ?_
          intro g9 hg_ w22 hbox_ hb_
          have GE_g9 : Aside0 (w.heap.size ≤ g9) := ⟨by rw [hg_]; exact below_size HB.out⟩
          have NE_g4_g9 : Aside0 (g4 ≠ g9) := ⟨by rw [hg_]; exact Nat.ne_of_lt (blk_lt BK_g4.out)⟩
          have NE_g9_g4 : Aside0 (g9 ≠ g4) := ⟨fun he_ => NE_g4_g9.out he_.symm⟩
          have NE_g5_g9 : Aside0 (g5 ≠ g9) := ⟨by rw [hg_]; exact Nat.ne_of_lt (blk_lt BK_g5.out)⟩
          have NE_g9_g5 : Aside0 (g9 ≠ g5) := ⟨fun he_ => NE_g5_g9.out he_.symm⟩
          have NE_g7_g9 : Aside0 (g7 ≠ g9) := ⟨by rw [hg_]; exact Nat.ne_of_lt (blk_lt BK_g7.out)⟩
          have NE_g9_g7 : Aside0 (g9 ≠ g7) := ⟨fun he_ => NE_g7_g9.out he_.symm⟩
          have n_ := Aside0.mk (blk_below BK_g4.out hb_); clear BK_g4; have BK_g4 := n_; clear n_
          have n_ := Aside0.mk (blk_below BK_g5.out hb_); clear BK_g5; have BK_g5 := n_; clear n_
          have n_ := Aside0.mk (blk_below BK_g7.out hb_); clear BK_g7; have BK_g7 := n_; clear n_
          have n_ := Aside0.mk (HCL.out.below hb_); clear HCL; have HCL := n_; clear n_
          have n_ := Aside0.mk (HCM.out.below hb_); clear HCM; have HCM := n_; clear n_
          have n_ := Aside0.mk (HCA.out.below hb_); clear HCA; have HCA := n_; clear n_
          have n_ := Aside0.mk (HCE.out.below hb_); clear HCE; have HCE := n_; clear n_
          have n_ := Aside0.mk (below_step HB.out hb_); clear HB; have HB := n_; clear n_
          have BK_g9 := Aside0.mk hbox_
          clear hbox_ hg_
          refine hK.out _ _ (lk_keep hb_ hHeld) (fun hHeld => ?_)
          clear hK K
          refine norm_ (a' := ?_) ?_ ?_
          rotate_left
          · show Act.put _ (some 9) _ = _
            simp only [Act.put, List.setIfInBounds_toArray, List.set_cons_zero, List.set_cons_succ, i64_w, i32_w]
            rfl
          refine one_ (i := 9) (N := some 44) #[true, true, true, true, true, true, true, true, true, true, false, false, false, true, false, false] rfl rfl (one_of HT_.out (by kernel_rfl)) (by decide) (fun K hK => ?_)
          refine goes_ Try.func30 (by kernel_rfl) rfl #[.agg #[.slice D0 M.length d0, .slice D1 0 d1], .agg #[.int .i64 b.f0, .int .i64 b.f1, .int .i64 b.f2]] (by rfl) rfl rfl (by (try simp only [List.map_toArray, List.map_cons, List.map_nil]); first | done | rfl) ?_
          with_reducible refine (ws_ask D0 d0 M D1 d1 b _ HCM.out HBM.out HLM.out HGM.out HFB.out).mono ?_
          rintro e w23 ⟨F0, f0, F1, f1, rfl, ho_, hoc_, hb_⟩
          refine ⟨_, rfl, ?_⟩
          have HFF := Aside0.mk hoc_
          have HCF := Aside0.mk ho_
          clear ho_ hoc_
          have n_ := Aside0.mk (blk_below BK_g4.out hb_); clear BK_g4; have BK_g4 := n_; clear n_
          have n_ := Aside0.mk (blk_below BK_g5.out hb_); clear BK_g5; have BK_g5 := n_; clear n_
          have n_ := Aside0.mk (blk_below BK_g7.out hb_); clear BK_g7; have BK_g7 := n_; clear n_
          have n_ := Aside0.mk (blk_below BK_g9.out hb_); clear BK_g9; have BK_g9 := n_; clear n_
          have n_ := Aside0.mk (HCL.out.below hb_); clear HCL; have HCL := n_; clear n_
          have n_ := Aside0.mk (HCM.out.below hb_); clear HCM; have HCM := n_; clear n_
          have n_ := Aside0.mk (HCA.out.below hb_); clear HCA; have HCA := n_; clear n_
          have n_ := Aside0.mk (HCE.out.below hb_); clear HCE; have HCE := n_; clear n_
          have n_ := Aside0.mk (below_step HB.out hb_); clear HB; have HB := n_; clear n_
          refine hK.out _ _ (lk_keep hb_ hHeld) (fun hHeld => ?_)
          clear hK K
          refine norm_ (a' := ?_) ?_ ?_
          rotate_left
          · show Act.put _ (some 44) _ = _
            simp only [Act.put, List.setIfInBounds_toArray, List.set_cons_zero, List.set_cons_succ, i64_w, i32_w]
            rfl
          refine pure_ (i := 10) (N := some 34) (v := ?_) (a' := ?_) #[true, true, true, true, true, true, true, true, true, true, true, false, false, true, false, false] rfl rfl (any_of HT_.out (by kernel_rfl)) (fun _ _ _ h => h) (Or.inl ⟨by rfl, ?_⟩) ?_ ?_
          rotate_left
          · intro w'
            go_simp
            with_reducible rfl
          rotate_left
          · simp only [Act.put, List.setIfInBounds_toArray, List.set_cons_zero, List.set_cons_succ, i64_w, i32_w]
            rfl
          refine pure_ (i := 11) (N := some 45) (v := ?_) (a' := ?_) #[true, true, true, true, true, true, true, true, true, true, true, true, false, true, false, false] rfl rfl (any_of HT_.out (by kernel_rfl)) (fun _ _ _ h => h) (Or.inl ⟨by rfl, ?_⟩) ?_ ?_
          rotate_left
          · intro w'
            go_simp
            with_reducible rfl
          rotate_left
          · simp only [Act.put, List.setIfInBounds_toArray, List.set_cons_zero, List.set_cons_succ, i64_w, i32_w]
            rfl
          refine pure_ (i := 12) (N := some 46) (v := ?_) (a' := ?_) #[true, true, true, true, true, true, true, true, true, true, true, true, true, true, false, false] rfl rfl (any_of HT_.out (by kernel_rfl)) (fun _ _ _ h => h) (Or.inl ⟨by rfl, ?_⟩) ?_ ?_
          rotate_left
          · intro w'
            go_simp
            with_reducible rfl
          rotate_left
          · simp only [Act.put, List.setIfInBounds_toArray, List.set_cons_zero, List.set_cons_succ, i64_w, i32_w]
            rfl
          refine last_ (i := 14) (N := none) #[true, true, true, true, true, true, true, true, true, true, true, true, true, true, true, false] rfl rfl (one_of HT_.out (by kernel_rfl)) (by decide) (fun K hK => ?_)
          have hs0 : w23.cell? ⟨g9, 0, none⟩ = some (.slice none 0 0) := (blk_cell BK_g9.out 0).trans rfl
          have hs1 : w23.cell? ⟨g9, 1, none⟩ = some (.slice none 0 0) := (blk_cell BK_g9.out 1).trans rfl
          have hf0 := blk_frozen BK_g9.out 0
          have hf1 := blk_frozen BK_g9.out 1
          refine skip_ (w1 := ?_) (by rfl) rfl ?_ ?_
          rotate_left
          · go_simp
            rfl
          refine hK.out _ _ ?_
          clear hK K
          refine pure_ (i := 15) (N := some 10) (v := ?_) (a' := ?_) #[true, true, true, true, true, true, true, true, true, true, true, true, true, true, true, true] rfl rfl (any_of HT_.out (by kernel_rfl)) (fun _ _ _ h => h) (Or.inl ⟨by rfl, ?_⟩) ?_ ?_
          rotate_left
          · intro w'
            go_simp
            with_reducible rfl
          rotate_left
          · simp only [Act.put, List.setIfInBounds_toArray, List.set_cons_zero, List.set_cons_succ, i64_w, i32_w]
            rfl
          refine done_ (done_of HT_.out (by kernel_rfl)) ?_
          clear hHeld
          have n_ := Aside0.mk (blk_far (blk_far BK_g4.out (p := ⟨g9, 0, none⟩) NE_g4_g9.out (.slice F0 (ws_step M b).length f0)) (p := ⟨g9, 1, none⟩) NE_g4_g9.out (.slice F1 0 f1)); clear BK_g4; have BK_g4 := n_; clear n_
          have n_ := Aside0.mk (blk_far (blk_far BK_g5.out (p := ⟨g9, 0, none⟩) NE_g5_g9.out (.slice F0 (ws_step M b).length f0)) (p := ⟨g9, 1, none⟩) NE_g5_g9.out (.slice F1 0 f1)); clear BK_g5; have BK_g5 := n_; clear n_
          have n_ := Aside0.mk (blk_far (blk_far BK_g7.out (p := ⟨g9, 0, none⟩) NE_g7_g9.out (.slice F0 (ws_step M b).length f0)) (p := ⟨g9, 1, none⟩) NE_g7_g9.out (.slice F1 0 f1)); clear BK_g7; have BK_g7 := n_; clear n_
          have n_ := Aside0.mk ((HCL.out.set BK_g9.out (by decide) 0 (.slice F0 (ws_step M b).length f0)).set (blk_put (cs' := #[.slice F0 (ws_step M b).length f0, .slice none 0 0]) BK_g9.out 0 (.slice F0 (ws_step M b).length f0) rfl) (by decide) 1 (.slice F1 0 f1)); clear HCL; have HCL := n_; clear n_
          have n_ := Aside0.mk ((HCM.out.set BK_g9.out (by decide) 0 (.slice F0 (ws_step M b).length f0)).set (blk_put (cs' := #[.slice F0 (ws_step M b).length f0, .slice none 0 0]) BK_g9.out 0 (.slice F0 (ws_step M b).length f0) rfl) (by decide) 1 (.slice F1 0 f1)); clear HCM; have HCM := n_; clear n_
          have n_ := Aside0.mk ((HCA.out.set BK_g9.out (by decide) 0 (.slice F0 (ws_step M b).length f0)).set (blk_put (cs' := #[.slice F0 (ws_step M b).length f0, .slice none 0 0]) BK_g9.out 0 (.slice F0 (ws_step M b).length f0) rfl) (by decide) 1 (.slice F1 0 f1)); clear HCA; have HCA := n_; clear n_
          have n_ := Aside0.mk ((HCE.out.set BK_g9.out (by decide) 0 (.slice F0 (ws_step M b).length f0)).set (blk_put (cs' := #[.slice F0 (ws_step M b).length f0, .slice none 0 0]) BK_g9.out 0 (.slice F0 (ws_step M b).length f0) rfl) (by decide) 1 (.slice F1 0 f1)); clear HCE; have HCE := n_; clear n_
          have n_ := Aside0.mk ((HCF.out.set BK_g9.out (by decide) 0 (.slice F0 (ws_step M b).length f0)).set (blk_put (cs' := #[.slice F0 (ws_step M b).length f0, .slice none 0 0]) BK_g9.out 0 (.slice F0 (ws_step M b).length f0) rfl) (by decide) 1 (.slice F1 0 f1)); clear HCF; have HCF := n_; clear n_
          have n_ := Aside0.mk (below_set (j := 1) (v := .slice F1 0 f1) (below_set (j := 0) (v := .slice F0 (ws_step M b).length f0) HB.out GE_g9.out) GE_g9.out); clear HB; have HB := n_; clear n_
          have n_ := Aside0.mk (blk_put (cs' := #[.slice F0 (ws_step M b).length f0, .slice F1 0 f1]) (blk_put (cs' := #[.slice F0 (ws_step M b).length f0, .slice none 0 0]) BK_g9.out 0 (.slice F0 (ws_step M b).length f0) rfl) 1 (.slice F1 0 f1) rfl); clear BK_g9; have BK_g9 := n_; clear n_
          clear hs0 hs1 hf0 hf1
          generalize (w23.setCell ⟨g9, 0, none⟩ (.slice F0 (ws_step M b).length f0)).setCell ⟨g9, 1, none⟩ (.slice F1 0 f1) = w24 at BK_g4 BK_g5 BK_g7 BK_g9 HCL HCM HCA HCE HCF HB ⊢
          try go_wp2
          refine start_ (n := 4) (S := (fun w' => w'.cell? ⟨g7, 0, none⟩ = some (.slice E0 (ws_step H a).length e0) ∧ w'.cell? ⟨g7, 1, none⟩ = some (.slice E1 0 e1) ∧ w'.cell? ⟨g9, 0, none⟩ = some (.slice F0 (ws_step M b).length f0) ∧ w'.cell? ⟨g9, 1, none⟩ = some (.slice F1 0 f1))) (ds := [3]) #[false, false, false, false] (by kernel_rfl) rfl rfl ⟨(blk_cell BK_g7.out 0).trans rfl, (blk_cell BK_g7.out 1).trans rfl, (blk_cell BK_g9.out 0).trans rfl, (blk_cell BK_g9.out 1).trans rfl⟩ (fun hHeld => ?_); refine with_tabW ws_l13_tab ws_l13_bits (fun HT_ HW_ => ?_)
          have n_ := Aside0.mk (blk_drew BK_g4.out); clear BK_g4; have BK_g4 := n_; clear n_
          have n_ := Aside0.mk (blk_drew BK_g5.out); clear BK_g5; have BK_g5 := n_; clear n_
          have n_ := Aside0.mk (blk_drew BK_g7.out); clear BK_g7; have BK_g7 := n_; clear n_
          have n_ := Aside0.mk (blk_drew BK_g9.out); clear BK_g9; have BK_g9 := n_; clear n_
          have n_ := Aside0.mk (HCL.out.below (below_drew (Below.refl _ _))); clear HCL; have HCL := n_; clear n_
          have n_ := Aside0.mk (HCM.out.below (below_drew (Below.refl _ _))); clear HCM; have HCM := n_; clear n_
          have n_ := Aside0.mk (HCA.out.below (below_drew (Below.refl _ _))); clear HCA; have HCA := n_; clear n_
          have n_ := Aside0.mk (HCE.out.below (below_drew (Below.refl _ _))); clear HCE; have HCE := n_; clear n_
          have n_ := Aside0.mk (HCF.out.below (below_drew (Below.refl _ _))); clear HCF; have HCF := n_; clear n_
          have n_ := Aside0.mk (below_drew1 HB.out); clear HB; have HB := n_; clear n_
          generalize w24.drew = w25 at BK_g4 BK_g5 BK_g7 BK_g9 HCL HCM HCA HCE HCF HB hHeld ⊢
          refine take_ (i := 0) (N := some 53) (v := ?_) (a' := ?_) #[true, false, false, false] rfl rfl (take_ofW HT_.out HW_.out (by kernel_rfl)) (fun _ _ _ h => h) (Or.inl ⟨by rfl, ?_⟩) hHeld ?_ ?_
          rotate_left
          · rintro w' ⟨s0, s1, s2, s3⟩
            go_simp
            with_reducible rfl
          rotate_left
          · simp only [Act.put, List.setIfInBounds_toArray, List.set_cons_zero, List.set_cons_succ, i64_w, i32_w]
            rfl
          refine take_ (i := 1) (N := some 54) (v := ?_) (a' := ?_) #[true, true, false, false] rfl rfl (take_ofW HT_.out HW_.out (by kernel_rfl)) (fun _ _ _ h => h) (Or.inl ⟨by rfl, ?_⟩) hHeld ?_ ?_
          rotate_left
          · rintro w' ⟨s0, s1, s2, s3⟩
            go_simp
            with_reducible rfl
          rotate_left
          · simp only [Act.put, List.setIfInBounds_toArray, List.set_cons_zero, List.set_cons_succ, i64_w, i32_w]
            rfl
          refine one_ (i := 2) (N := none) #[true, true, true, false] rfl rfl (one_of HT_.out (by kernel_rfl)) (by decide) (fun K hK => ?_)
          have hs0 : w25.cell? ⟨g4, 0, none⟩ = some (.slice B0 H.length b0) := (blk_cell BK_g4.out 0).trans rfl
          have hs1 : w25.cell? ⟨g4, 1, none⟩ = some (.slice B1 0 b1) := (blk_cell BK_g4.out 1).trans rfl
          have hf0 := blk_frozen BK_g4.out 0
          have hf1 := blk_frozen BK_g4.out 1
          refine skip_ (w1 := ?_) (by rfl) rfl ?_ ?_
          rotate_left
          · go_simp
            rfl
          clear hHeld
          have n_ := Aside0.mk (blk_far (blk_far BK_g5.out (p := ⟨g4, 0, none⟩) NE_g5_g4.out (.slice E0 (ws_step H a).length e0)) (p := ⟨g4, 1, none⟩) NE_g5_g4.out (.slice E1 0 e1)); clear BK_g5; have BK_g5 := n_; clear n_
          have n_ := Aside0.mk (blk_far (blk_far BK_g7.out (p := ⟨g4, 0, none⟩) NE_g7_g4.out (.slice E0 (ws_step H a).length e0)) (p := ⟨g4, 1, none⟩) NE_g7_g4.out (.slice E1 0 e1)); clear BK_g7; have BK_g7 := n_; clear n_
          have n_ := Aside0.mk (blk_far (blk_far BK_g9.out (p := ⟨g4, 0, none⟩) NE_g9_g4.out (.slice E0 (ws_step H a).length e0)) (p := ⟨g4, 1, none⟩) NE_g9_g4.out (.slice E1 0 e1)); clear BK_g9; have BK_g9 := n_; clear n_
          have n_ := Aside0.mk ((HCL.out.set BK_g4.out (by decide) 0 (.slice E0 (ws_step H a).length e0)).set (blk_put (cs' := #[.slice E0 (ws_step H a).length e0, .slice B1 0 b1]) BK_g4.out 0 (.slice E0 (ws_step H a).length e0) rfl) (by decide) 1 (.slice E1 0 e1)); clear HCL; have HCL := n_; clear n_
          have n_ := Aside0.mk ((HCM.out.set BK_g4.out (by decide) 0 (.slice E0 (ws_step H a).length e0)).set (blk_put (cs' := #[.slice E0 (ws_step H a).length e0, .slice B1 0 b1]) BK_g4.out 0 (.slice E0 (ws_step H a).length e0) rfl) (by decide) 1 (.slice E1 0 e1)); clear HCM; have HCM := n_; clear n_
          have n_ := Aside0.mk ((HCA.out.set BK_g4.out (by decide) 0 (.slice E0 (ws_step H a).length e0)).set (blk_put (cs' := #[.slice E0 (ws_step H a).length e0, .slice B1 0 b1]) BK_g4.out 0 (.slice E0 (ws_step H a).length e0) rfl) (by decide) 1 (.slice E1 0 e1)); clear HCA; have HCA := n_; clear n_
          have n_ := Aside0.mk ((HCE.out.set BK_g4.out (by decide) 0 (.slice E0 (ws_step H a).length e0)).set (blk_put (cs' := #[.slice E0 (ws_step H a).length e0, .slice B1 0 b1]) BK_g4.out 0 (.slice E0 (ws_step H a).length e0) rfl) (by decide) 1 (.slice E1 0 e1)); clear HCE; have HCE := n_; clear n_
          have n_ := Aside0.mk ((HCF.out.set BK_g4.out (by decide) 0 (.slice E0 (ws_step H a).length e0)).set (blk_put (cs' := #[.slice E0 (ws_step H a).length e0, .slice B1 0 b1]) BK_g4.out 0 (.slice E0 (ws_step H a).length e0) rfl) (by decide) 1 (.slice E1 0 e1)); clear HCF; have HCF := n_; clear n_
          have n_ := Aside0.mk (below_set (j := 1) (v := .slice E1 0 e1) (below_set (j := 0) (v := .slice E0 (ws_step H a).length e0) HB.out GE_g4.out) GE_g4.out); clear HB; have HB := n_; clear n_
          have n_ := Aside0.mk (blk_put (cs' := #[.slice E0 (ws_step H a).length e0, .slice E1 0 e1]) (blk_put (cs' := #[.slice E0 (ws_step H a).length e0, .slice B1 0 b1]) BK_g4.out 0 (.slice E0 (ws_step H a).length e0) rfl) 1 (.slice E1 0 e1) rfl); clear BK_g4; have BK_g4 := n_; clear n_
          clear hs0 hs1 hf0 hf1
          generalize (w25.setCell ⟨g4, 0, none⟩ (.slice E0 (ws_step H a).length e0)).setCell ⟨g4, 1, none⟩ (.slice E1 0 e1) = w26 at BK_g4 BK_g5 BK_g7 BK_g9 HCL HCM HCA HCE HCF HB ⊢
          refine hK.out _ _ ⟨(blk_cell BK_g7.out 0).trans rfl, (blk_cell BK_g7.out 1).trans rfl, (blk_cell BK_g9.out 0).trans rfl, (blk_cell BK_g9.out 1).trans rfl⟩ (fun hHeld => ?_)
          clear hK K
          refine last_ (i := 3) (N := none) #[true, true, true, true] rfl rfl (one_of HT_.out (by kernel_rfl)) (by decide) (fun K hK => ?_)
          have hs0 : w26.cell? ⟨g5, 0, none⟩ = some (.slice D0 M.length d0) := (blk_cell BK_g5.out 0).trans rfl
          have hs1 : w26.cell? ⟨g5, 1, none⟩ = some (.slice D1 0 d1) := (blk_cell BK_g5.out 1).trans rfl
          have hf0 := blk_frozen BK_g5.out 0
          have hf1 := blk_frozen BK_g5.out 1
          refine skip_ (w1 := ?_) (by rfl) rfl ?_ ?_
          rotate_left
          · go_simp
            rfl
          refine hK.out _ _ ?_
          clear hK K hHeld
          refine done_ (done_of HT_.out (by kernel_rfl)) ?_
          have n_ := Aside0.mk (blk_far (blk_far BK_g4.out (p := ⟨g5, 0, none⟩) NE_g4_g5.out (.slice F0 (ws_step M b).length f0)) (p := ⟨g5, 1, none⟩) NE_g4_g5.out (.slice F1 0 f1)); clear BK_g4; have BK_g4 := n_; clear n_
          have n_ := Aside0.mk (blk_far (blk_far BK_g7.out (p := ⟨g5, 0, none⟩) NE_g7_g5.out (.slice F0 (ws_step M b).length f0)) (p := ⟨g5, 1, none⟩) NE_g7_g5.out (.slice F1 0 f1)); clear BK_g7; have BK_g7 := n_; clear n_
          have n_ := Aside0.mk (blk_far (blk_far BK_g9.out (p := ⟨g5, 0, none⟩) NE_g9_g5.out (.slice F0 (ws_step M b).length f0)) (p := ⟨g5, 1, none⟩) NE_g9_g5.out (.slice F1 0 f1)); clear BK_g9; have BK_g9 := n_; clear n_
          have n_ := Aside0.mk ((HCL.out.set BK_g5.out (by decide) 0 (.slice F0 (ws_step M b).length f0)).set (blk_put (cs' := #[.slice F0 (ws_step M b).length f0, .slice D1 0 d1]) BK_g5.out 0 (.slice F0 (ws_step M b).length f0) rfl) (by decide) 1 (.slice F1 0 f1)); clear HCL; have HCL := n_; clear n_
          have n_ := Aside0.mk ((HCM.out.set BK_g5.out (by decide) 0 (.slice F0 (ws_step M b).length f0)).set (blk_put (cs' := #[.slice F0 (ws_step M b).length f0, .slice D1 0 d1]) BK_g5.out 0 (.slice F0 (ws_step M b).length f0) rfl) (by decide) 1 (.slice F1 0 f1)); clear HCM; have HCM := n_; clear n_
          have n_ := Aside0.mk ((HCA.out.set BK_g5.out (by decide) 0 (.slice F0 (ws_step M b).length f0)).set (blk_put (cs' := #[.slice F0 (ws_step M b).length f0, .slice D1 0 d1]) BK_g5.out 0 (.slice F0 (ws_step M b).length f0) rfl) (by decide) 1 (.slice F1 0 f1)); clear HCA; have HCA := n_; clear n_
          have n_ := Aside0.mk ((HCE.out.set BK_g5.out (by decide) 0 (.slice F0 (ws_step M b).length f0)).set (blk_put (cs' := #[.slice F0 (ws_step M b).length f0, .slice D1 0 d1]) BK_g5.out 0 (.slice F0 (ws_step M b).length f0) rfl) (by decide) 1 (.slice F1 0 f1)); clear HCE; have HCE := n_; clear n_
          have n_ := Aside0.mk ((HCF.out.set BK_g5.out (by decide) 0 (.slice F0 (ws_step M b).length f0)).set (blk_put (cs' := #[.slice F0 (ws_step M b).length f0, .slice D1 0 d1]) BK_g5.out 0 (.slice F0 (ws_step M b).length f0) rfl) (by decide) 1 (.slice F1 0 f1)); clear HCF; have HCF := n_; clear n_
          have n_ := Aside0.mk (below_set (j := 1) (v := .slice F1 0 f1) (below_set (j := 0) (v := .slice F0 (ws_step M b).length f0) HB.out GE_g5.out) GE_g5.out); clear HB; have HB := n_; clear n_
          have n_ := Aside0.mk (blk_put (cs' := #[.slice F0 (ws_step M b).length f0, .slice F1 0 f1]) (blk_put (cs' := #[.slice F0 (ws_step M b).length f0, .slice D1 0 d1]) BK_g5.out 0 (.slice F0 (ws_step M b).length f0) rfl) 1 (.slice F1 0 f1) rfl); clear BK_g5; have BK_g5 := n_; clear n_
          clear hs0 hs1 hf0 hf1
          generalize (w26.setCell ⟨g5, 0, none⟩ (.slice F0 (ws_step M b).length f0)).setCell ⟨g5, 1, none⟩ (.slice F1 0 f1) = w27 at BK_g4 BK_g5 BK_g7 BK_g9 HCL HCM HCA HCE HCF HB ⊢
          try go_wp2
          go_roundg (n - (kk + 1))
          case measure => omega
          case rel => exact ⟨kk + 1, E0, e0, E1, e1, F0, f0, F1, f1, by go_num, by omega, by omega, ⟨by rw [HSH.out]; exact BK_g4.out⟩, ⟨by rw [HSM.out]; exact BK_g5.out⟩, ⟨by rw [HSH.out]; exact ⟨HCE.out, HEE.out⟩⟩, ⟨by rw [HSM.out]; exact ⟨HCF.out, HFF.out⟩⟩, HCA, HB⟩
      · skip
        refine box_step (by rfl) (N := 7) rfl (cs := #[.slice none 0 0, .slice none 0 0]) (t := 53) (by first | (go_simp; done) | (go_simp; rfl)) ?_
        intro g7 hg_ w28 hbox_ hb_
        have GE_g7 : Aside0 (w.heap.size ≤ g7) := ⟨by rw [hg_]; exact below_size HB.out⟩
        have NE_g4_g7 : Aside0 (g4 ≠ g7) := ⟨by rw [hg_]; exact Nat.ne_of_lt (blk_lt BK_g4.out)⟩
        have NE_g7_g4 : Aside0 (g7 ≠ g4) := ⟨fun he_ => NE_g4_g7.out he_.symm⟩
        have NE_g5_g7 : Aside0 (g5 ≠ g7) := ⟨by rw [hg_]; exact Nat.ne_of_lt (blk_lt BK_g5.out)⟩
        have NE_g7_g5 : Aside0 (g7 ≠ g5) := ⟨fun he_ => NE_g5_g7.out he_.symm⟩
        have n_ := Aside0.mk (blk_below BK_g4.out hb_); clear BK_g4; have BK_g4 := n_; clear n_
        have n_ := Aside0.mk (blk_below BK_g5.out hb_); clear BK_g5; have BK_g5 := n_; clear n_
        have n_ := Aside0.mk (HCL.out.below hb_); clear HCL; have HCL := n_; clear n_
        have n_ := Aside0.mk (HCM.out.below hb_); clear HCM; have HCM := n_; clear n_
        have n_ := Aside0.mk (HCA.out.below hb_); clear HCA; have HCA := n_; clear n_
        have n_ := Aside0.mk (below_step HB.out hb_); clear HB; have HB := n_; clear n_
        have BK_g7 := Aside0.mk hbox_
        clear hbox_ hg_
        refine hK.out _ _ (lk_keep hb_ hHeld) (fun hHeld => ?_)
        clear hK K
        refine norm_ (a' := ?_) ?_ ?_
        rotate_left
        · show Act.put _ (some 7) _ = _
          simp only [Act.put, List.setIfInBounds_toArray, List.set_cons_zero, List.set_cons_succ, i64_w, i32_w]
          rfl
        refine one_ (i := 5) (N := some 31) #[true, true, true, true, true, true, false, false, false, true, false, false] rfl rfl (one_of HT_.out (by kernel_rfl)) (by decide) (fun K hK => ?_)
        refine goes_ Try.func30 (by kernel_rfl) rfl #[.agg #[.slice B0 H.length b0, .slice B1 0 b1], .agg #[.int .i64 a.f0, .int .i64 a.f1, .int .i64 a.f2]] (by rfl) rfl rfl (by (try simp only [List.map_toArray, List.map_cons, List.map_nil]); first | done | rfl) ?_
        with_reducible refine (ws_ask B0 b0 H B1 b1 a _ HCL.out HBL.out HLH.out HGH.out HFA.out).mono ?_
        rintro e w29 ⟨E0, e0, E1, e1, rfl, ho_, hoc_, hb_⟩
        refine ⟨_, rfl, ?_⟩
        have HEE := Aside0.mk hoc_
        have HCE := Aside0.mk ho_
        clear ho_ hoc_
        have n_ := Aside0.mk (blk_below BK_g4.out hb_); clear BK_g4; have BK_g4 := n_; clear n_
        have n_ := Aside0.mk (blk_below BK_g5.out hb_); clear BK_g5; have BK_g5 := n_; clear n_
        have n_ := Aside0.mk (blk_below BK_g7.out hb_); clear BK_g7; have BK_g7 := n_; clear n_
        have n_ := Aside0.mk (HCL.out.below hb_); clear HCL; have HCL := n_; clear n_
        have n_ := Aside0.mk (HCM.out.below hb_); clear HCM; have HCM := n_; clear n_
        have n_ := Aside0.mk (HCA.out.below hb_); clear HCA; have HCA := n_; clear n_
        have n_ := Aside0.mk (below_step HB.out hb_); clear HB; have HB := n_; clear n_
        refine hK.out _ _ (lk_keep hb_ hHeld) (fun hHeld => ?_)
        clear hK K
        refine norm_ (a' := ?_) ?_ ?_
        rotate_left
        · show Act.put _ (some 31) _ = _
          simp only [Act.put, List.setIfInBounds_toArray, List.set_cons_zero, List.set_cons_succ, i64_w, i32_w]
          rfl
        refine pure_ (i := 6) (N := some 25) (v := ?_) (a' := ?_) #[true, true, true, true, true, true, true, false, false, true, false, false] rfl rfl (any_of HT_.out (by kernel_rfl)) (fun _ _ _ h => h) (Or.inl ⟨by rfl, ?_⟩) ?_ ?_
        rotate_left
        · intro w'
          go_simp
          with_reducible rfl
        rotate_left
        · simp only [Act.put, List.setIfInBounds_toArray, List.set_cons_zero, List.set_cons_succ, i64_w, i32_w]
          rfl
        refine pure_ (i := 7) (N := some 32) (v := ?_) (a' := ?_) #[true, true, true, true, true, true, true, true, false, true, false, false] rfl rfl (any_of HT_.out (by kernel_rfl)) (fun _ _ _ h => h) (Or.inl ⟨by rfl, ?_⟩) ?_ ?_
        rotate_left
        · intro w'
          go_simp
          with_reducible rfl
        rotate_left
        · simp only [Act.put, List.setIfInBounds_toArray, List.set_cons_zero, List.set_cons_succ, i64_w, i32_w]
          rfl
        refine pure_ (i := 8) (N := some 33) (v := ?_) (a' := ?_) #[true, true, true, true, true, true, true, true, true, true, false, false] rfl rfl (any_of HT_.out (by kernel_rfl)) (fun _ _ _ h => h) (Or.inl ⟨by rfl, ?_⟩) ?_ ?_
        rotate_left
        · intro w'
          go_simp
          with_reducible rfl
        rotate_left
        · simp only [Act.put, List.setIfInBounds_toArray, List.set_cons_zero, List.set_cons_succ, i64_w, i32_w]
          rfl
        refine last_ (i := 10) (N := none) #[true, true, true, true, true, true, true, true, true, true, true, false] rfl rfl (one_of HT_.out (by kernel_rfl)) (by decide) (fun K hK => ?_)
        have hs0 : w29.cell? ⟨g7, 0, none⟩ = some (.slice none 0 0) := (blk_cell BK_g7.out 0).trans rfl
        have hs1 : w29.cell? ⟨g7, 1, none⟩ = some (.slice none 0 0) := (blk_cell BK_g7.out 1).trans rfl
        have hf0 := blk_frozen BK_g7.out 0
        have hf1 := blk_frozen BK_g7.out 1
        refine skip_ (w1 := ?_) (by rfl) rfl ?_ ?_
        rotate_left
        · go_simp
          rfl
        refine hK.out _ _ ?_
        clear hK K
        refine pure_ (i := 11) (N := some 8) (v := ?_) (a' := ?_) #[true, true, true, true, true, true, true, true, true, true, true, true] rfl rfl (any_of HT_.out (by kernel_rfl)) (fun _ _ _ h => h) (Or.inl ⟨by rfl, ?_⟩) ?_ ?_
        rotate_left
        · intro w'
          go_simp
          with_reducible rfl
        rotate_left
        · simp only [Act.put, List.setIfInBounds_toArray, List.set_cons_zero, List.set_cons_succ, i64_w, i32_w]
          rfl
        refine done_ (done_of HT_.out (by kernel_rfl)) ?_
        clear hHeld
        have n_ := Aside0.mk (blk_far (blk_far BK_g4.out (p := ⟨g7, 0, none⟩) NE_g4_g7.out (.slice E0 (ws_step H a).length e0)) (p := ⟨g7, 1, none⟩) NE_g4_g7.out (.slice E1 0 e1)); clear BK_g4; have BK_g4 := n_; clear n_
        have n_ := Aside0.mk (blk_far (blk_far BK_g5.out (p := ⟨g7, 0, none⟩) NE_g5_g7.out (.slice E0 (ws_step H a).length e0)) (p := ⟨g7, 1, none⟩) NE_g5_g7.out (.slice E1 0 e1)); clear BK_g5; have BK_g5 := n_; clear n_
        have n_ := Aside0.mk ((HCL.out.set BK_g7.out (by decide) 0 (.slice E0 (ws_step H a).length e0)).set (blk_put (cs' := #[.slice E0 (ws_step H a).length e0, .slice none 0 0]) BK_g7.out 0 (.slice E0 (ws_step H a).length e0) rfl) (by decide) 1 (.slice E1 0 e1)); clear HCL; have HCL := n_; clear n_
        have n_ := Aside0.mk ((HCM.out.set BK_g7.out (by decide) 0 (.slice E0 (ws_step H a).length e0)).set (blk_put (cs' := #[.slice E0 (ws_step H a).length e0, .slice none 0 0]) BK_g7.out 0 (.slice E0 (ws_step H a).length e0) rfl) (by decide) 1 (.slice E1 0 e1)); clear HCM; have HCM := n_; clear n_
        have n_ := Aside0.mk ((HCA.out.set BK_g7.out (by decide) 0 (.slice E0 (ws_step H a).length e0)).set (blk_put (cs' := #[.slice E0 (ws_step H a).length e0, .slice none 0 0]) BK_g7.out 0 (.slice E0 (ws_step H a).length e0) rfl) (by decide) 1 (.slice E1 0 e1)); clear HCA; have HCA := n_; clear n_
        have n_ := Aside0.mk ((HCE.out.set BK_g7.out (by decide) 0 (.slice E0 (ws_step H a).length e0)).set (blk_put (cs' := #[.slice E0 (ws_step H a).length e0, .slice none 0 0]) BK_g7.out 0 (.slice E0 (ws_step H a).length e0) rfl) (by decide) 1 (.slice E1 0 e1)); clear HCE; have HCE := n_; clear n_
        have n_ := Aside0.mk (below_set (j := 1) (v := .slice E1 0 e1) (below_set (j := 0) (v := .slice E0 (ws_step H a).length e0) HB.out GE_g7.out) GE_g7.out); clear HB; have HB := n_; clear n_
        have n_ := Aside0.mk (blk_put (cs' := #[.slice E0 (ws_step H a).length e0, .slice E1 0 e1]) (blk_put (cs' := #[.slice E0 (ws_step H a).length e0, .slice none 0 0]) BK_g7.out 0 (.slice E0 (ws_step H a).length e0) rfl) 1 (.slice E1 0 e1) rfl); clear BK_g7; have BK_g7 := n_; clear n_
        clear hs0 hs1 hf0 hf1
        generalize (w29.setCell ⟨g7, 0, none⟩ (.slice E0 (ws_step H a).length e0)).setCell ⟨g7, 1, none⟩ (.slice E1 0 e1) = w30 at BK_g4 BK_g5 BK_g7 HCL HCM HCA HCE HB ⊢
        try go_wp2
        refine start_ (n := 16) (S := (fun w' => w'.cell? ⟨g5, 0, none⟩ = some (.slice D0 M.length d0) ∧ w'.cell? ⟨g5, 1, none⟩ = some (.slice D1 0 d1) ∧ w'.cell? ⟨ga, jj * 3, none⟩ = some (.int .i64 b.f0) ∧ w'.cell? ⟨ga, jj * 3 + 1, none⟩ = some (.int .i64 b.f1) ∧ w'.cell? ⟨ga, jj * 3 + 2, none⟩ = some (.int .i64 b.f2))) (ds := [14]) #[false, false, false, false, false, false, false, false, false, false, false, false, false, false, false, false] (by kernel_rfl) rfl rfl ⟨(blk_cell BK_g5.out 0).trans rfl, (blk_cell BK_g5.out 1).trans rfl, (ws_cells_of HCA.out.C HJB.out).1, (ws_cells_of HCA.out.C HJB.out).2.1, (ws_cells_of HCA.out.C HJB.out).2.2⟩ (fun hHeld => ?_); refine with_tabW ws_l10_tab ws_l10_bits (fun HT_ HW_ => ?_)
        have n_ := Aside0.mk (blk_drew BK_g4.out); clear BK_g4; have BK_g4 := n_; clear n_
        have n_ := Aside0.mk (blk_drew BK_g5.out); clear BK_g5; have BK_g5 := n_; clear n_
        have n_ := Aside0.mk (blk_drew BK_g7.out); clear BK_g7; have BK_g7 := n_; clear n_
        have n_ := Aside0.mk (HCL.out.below (below_drew (Below.refl _ _))); clear HCL; have HCL := n_; clear n_
        have n_ := Aside0.mk (HCM.out.below (below_drew (Below.refl _ _))); clear HCM; have HCM := n_; clear n_
        have n_ := Aside0.mk (HCA.out.below (below_drew (Below.refl _ _))); clear HCA; have HCA := n_; clear n_
        have n_ := Aside0.mk (HCE.out.below (below_drew (Below.refl _ _))); clear HCE; have HCE := n_; clear n_
        have n_ := Aside0.mk (below_drew1 HB.out); clear HB; have HB := n_; clear n_
        generalize w30.drew = w31 at BK_g4 BK_g5 BK_g7 HCL HCM HCA HCE HB hHeld ⊢
        refine take_ (i := 0) (N := some 35) (v := ?_) (a' := ?_) #[true, false, false, false, false, false, false, false, false, false, false, false, false, false, false, false] rfl rfl (take_ofW HT_.out HW_.out (by kernel_rfl)) (fun _ _ _ h => h) (Or.inl ⟨by rfl, ?_⟩) hHeld ?_ ?_
        rotate_left
        · rintro w' ⟨s0, s1, s2, s3, s4⟩
          go_simp
          with_reducible rfl
        rotate_left
        · simp only [Act.put, List.setIfInBounds_toArray, List.set_cons_zero, List.set_cons_succ, i64_w, i32_w]
          rfl
        refine pure_ (i := 1) (N := some 36) (v := ?_) (a' := ?_) #[true, true, false, false, false, false, false, false, false, false, false, false, false, false, false, false] rfl rfl (any_of HT_.out (by kernel_rfl)) (fun _ _ _ h => h) (Or.inl ⟨by rfl, ?_⟩) ?_ ?_
        rotate_left
        · intro w'
          go_simp
          with_reducible rfl
        rotate_left
        · simp only [Act.put, List.setIfInBounds_toArray, List.set_cons_zero, List.set_cons_succ, i64_w, i32_w]
          rfl
        refine pure_ (i := 2) (N := some 37) (v := ?_) (a' := ?_) #[true, true, true, false, false, false, false, false, false, false, false, false, false, false, false, false] rfl rfl (any_of HT_.out (by kernel_rfl)) (fun _ _ _ h => h) (Or.inl ⟨by rfl, ?_⟩) ?_ ?_
        rotate_left
        · intro w'
          go_simp
          with_reducible rfl
        rotate_left
        · simp only [Act.put, List.setIfInBounds_toArray, List.set_cons_zero, List.set_cons_succ, i64_w, i32_w]
          rfl
        refine pure_ (i := 3) (N := some 38) (v := ?_) (a' := ?_) #[true, true, true, true, false, false, false, false, false, false, false, false, false, false, false, false] rfl rfl (any_of HT_.out (by kernel_rfl)) (fun _ _ _ h => h) (Or.inl ⟨by rfl, ?_⟩) ?_ ?_
        rotate_left
        · intro w'
          go_simp
          with_reducible rfl
        rotate_left
        · simp only [Act.put, List.setIfInBounds_toArray, List.set_cons_zero, List.set_cons_succ, i64_w, i32_w]
          rfl
        refine pure_ (i := 4) (N := some 39) (v := ?_) (a' := ?_) #[true, true, true, true, true, false, false, false, false, false, false, false, false, false, false, false] rfl rfl (any_of HT_.out (by kernel_rfl)) (fun _ _ _ h => h) (Or.inl ⟨by rfl, ?_⟩) ?_ ?_
        rotate_left
        · intro w'
          go_simp
          with_reducible rfl
        rotate_left
        · simp only [Act.put, List.setIfInBounds_toArray, List.set_cons_zero, List.set_cons_succ, i64_w, i32_w]
          rfl
        refine pure_ (i := 5) (N := some 40) (v := ?_) (a' := ?_) #[true, true, true, true, true, true, false, false, false, false, false, false, false, false, false, false] rfl rfl (any_of HT_.out (by kernel_rfl)) (fun _ _ _ h => h) (Or.inl ⟨by rfl, ?_⟩) ?_ ?_
        rotate_left
        · intro w'
          go_simp
          with_reducible rfl
        rotate_left
        · simp only [Act.put, List.setIfInBounds_toArray, List.set_cons_zero, List.set_cons_succ, i64_w, i32_w]
          rfl
        refine pure_ (i := 6) (N := some 41) (v := ?_) (a' := ?_) #[true, true, true, true, true, true, true, false, false, false, false, false, false, false, false, false] rfl rfl (any_of HT_.out (by kernel_rfl)) (fun _ _ _ h => h) (Or.inl ⟨by rfl, ?_⟩) ?_ ?_
        rotate_left
        · intro w'
          go_simp
          rw [HJJ.out]
        rotate_left
        · simp only [Act.put, List.setIfInBounds_toArray, List.set_cons_zero, List.set_cons_succ, i64_w, i32_w]
          rfl
        refine pure_ (i := 7) (N := some 42) (v := ?_) (a' := ?_) #[true, true, true, true, true, true, true, true, false, false, false, false, false, false, false, false] rfl rfl (any_of HT_.out (by kernel_rfl)) (fun _ _ _ h => h) (Or.inl ⟨by rfl, ?_⟩) ?_ ?_
        rotate_left
        · intro w'
          go_simp
          with_reducible rfl
        rotate_left
        · simp only [Act.put, List.setIfInBounds_toArray, List.set_cons_zero, List.set_cons_succ, i64_w, i32_w]
          rfl
        refine take_ (i := 8) (N := some 43) (v := ?_) (a' := ?_) #[true, true, true, true, true, true, true, true, true, false, false, false, false, false, false, false] rfl rfl (take_ofW HT_.out HW_.out (by kernel_rfl)) (fun _ _ _ h => h) (Or.inl ⟨by rfl, ?_⟩) hHeld ?_ ?_
        rotate_left
        · rintro w' ⟨s0, s1, s2, s3, s4⟩
          go_simp
          with_reducible rfl
        rotate_left
        · simp only [Act.put, List.setIfInBounds_toArray, List.set_cons_zero, List.set_cons_succ, i64_w, i32_w]
          rfl
        refine two_ (i := 9) (j := 13) (Ni := some 44) (Nj := some 9) #[true, true, true, true, true, true, true, true, true, true, false, false, false, false, false, false] #[true, true, true, true, true, true, true, true, true, false, false, false, false, true, false, false] rfl rfl rfl rfl (two_of HT_.out (by kernel_rfl)) (by decide) (by decide) (fun K hK => ?_) (fun K hK => ?_)
        · skip
          refine goes_ Try.func30 (by kernel_rfl) rfl #[.agg #[.slice D0 M.length d0, .slice D1 0 d1], .agg #[.int .i64 b.f0, .int .i64 b.f1, .int .i64 b.f2]] (by rfl) rfl rfl (by (try simp only [List.map_toArray, List.map_cons, List.map_nil]); first | done | rfl) ?_
          with_reducible refine (ws_ask D0 d0 M D1 d1 b _ HCM.out HBM.out HLM.out HGM.out HFB.out).mono ?_
          rintro e w32 ⟨F0, f0, F1, f1, rfl, ho_, hoc_, hb_⟩
          refine ⟨_, rfl, ?_⟩
          have HFF := Aside0.mk hoc_
          have HCF := Aside0.mk ho_
          clear ho_ hoc_
          have n_ := Aside0.mk (blk_below BK_g4.out hb_); clear BK_g4; have BK_g4 := n_; clear n_
          have n_ := Aside0.mk (blk_below BK_g5.out hb_); clear BK_g5; have BK_g5 := n_; clear n_
          have n_ := Aside0.mk (blk_below BK_g7.out hb_); clear BK_g7; have BK_g7 := n_; clear n_
          have n_ := Aside0.mk (HCL.out.below hb_); clear HCL; have HCL := n_; clear n_
          have n_ := Aside0.mk (HCM.out.below hb_); clear HCM; have HCM := n_; clear n_
          have n_ := Aside0.mk (HCA.out.below hb_); clear HCA; have HCA := n_; clear n_
          have n_ := Aside0.mk (HCE.out.below hb_); clear HCE; have HCE := n_; clear n_
          have n_ := Aside0.mk (below_step HB.out hb_); clear HB; have HB := n_; clear n_
          refine hK.out _ _ (lk_keep hb_ hHeld) (fun hHeld => ?_)
          clear hK K
          refine norm_ (a' := ?_) ?_ ?_
          rotate_left
          · show Act.put _ (some 44) _ = _
            simp only [Act.put, List.setIfInBounds_toArray, List.set_cons_zero, List.set_cons_succ, i64_w, i32_w]
            rfl
          refine pure_ (i := 10) (N := some 34) (v := ?_) (a' := ?_) #[true, true, true, true, true, true, true, true, true, true, true, false, false, false, false, false] rfl rfl (any_of HT_.out (by kernel_rfl)) (fun _ _ _ h => h) (Or.inl ⟨by rfl, ?_⟩) ?_ ?_
          rotate_left
          · intro w'
            go_simp
            with_reducible rfl
          rotate_left
          · simp only [Act.put, List.setIfInBounds_toArray, List.set_cons_zero, List.set_cons_succ, i64_w, i32_w]
            rfl
          refine pure_ (i := 11) (N := some 45) (v := ?_) (a' := ?_) #[true, true, true, true, true, true, true, true, true, true, true, true, false, false, false, false] rfl rfl (any_of HT_.out (by kernel_rfl)) (fun _ _ _ h => h) (Or.inl ⟨by rfl, ?_⟩) ?_ ?_
          rotate_left
          · intro w'
            go_simp
            with_reducible rfl
          rotate_left
          · simp only [Act.put, List.setIfInBounds_toArray, List.set_cons_zero, List.set_cons_succ, i64_w, i32_w]
            rfl
          refine pure_ (i := 12) (N := some 46) (v := ?_) (a' := ?_) #[true, true, true, true, true, true, true, true, true, true, true, true, true, false, false, false] rfl rfl (any_of HT_.out (by kernel_rfl)) (fun _ _ _ h => h) (Or.inl ⟨by rfl, ?_⟩) ?_ ?_
          rotate_left
          · intro w'
            go_simp
            with_reducible rfl
          rotate_left
          · simp only [Act.put, List.setIfInBounds_toArray, List.set_cons_zero, List.set_cons_succ, i64_w, i32_w]
            rfl
          refine one_ (i := 13) (N := some 9) #[true, true, true, true, true, true, true, true, true, true, true, true, true, true, false, false] rfl rfl (one_of HT_.out (by kernel_rfl)) (by decide) (fun K hK => ?_)
          refine box_step (by rfl) (N := 9) rfl (cs := #[.slice none 0 0, .slice none 0 0]) (t := 53) (by first | (go_simp; done) | (go_simp; rfl)) ?_
          intro g9 hg_ w33 hbox_ hb_
          have GE_g9 : Aside0 (w.heap.size ≤ g9) := ⟨by rw [hg_]; exact below_size HB.out⟩
          have NE_g4_g9 : Aside0 (g4 ≠ g9) := ⟨by rw [hg_]; exact Nat.ne_of_lt (blk_lt BK_g4.out)⟩
          have NE_g9_g4 : Aside0 (g9 ≠ g4) := ⟨fun he_ => NE_g4_g9.out he_.symm⟩
          have NE_g5_g9 : Aside0 (g5 ≠ g9) := ⟨by rw [hg_]; exact Nat.ne_of_lt (blk_lt BK_g5.out)⟩
          have NE_g9_g5 : Aside0 (g9 ≠ g5) := ⟨fun he_ => NE_g5_g9.out he_.symm⟩
          have NE_g7_g9 : Aside0 (g7 ≠ g9) := ⟨by rw [hg_]; exact Nat.ne_of_lt (blk_lt BK_g7.out)⟩
          have NE_g9_g7 : Aside0 (g9 ≠ g7) := ⟨fun he_ => NE_g7_g9.out he_.symm⟩
          have n_ := Aside0.mk (blk_below BK_g4.out hb_); clear BK_g4; have BK_g4 := n_; clear n_
          have n_ := Aside0.mk (blk_below BK_g5.out hb_); clear BK_g5; have BK_g5 := n_; clear n_
          have n_ := Aside0.mk (blk_below BK_g7.out hb_); clear BK_g7; have BK_g7 := n_; clear n_
          have n_ := Aside0.mk (HCL.out.below hb_); clear HCL; have HCL := n_; clear n_
          have n_ := Aside0.mk (HCM.out.below hb_); clear HCM; have HCM := n_; clear n_
          have n_ := Aside0.mk (HCA.out.below hb_); clear HCA; have HCA := n_; clear n_
          have n_ := Aside0.mk (HCE.out.below hb_); clear HCE; have HCE := n_; clear n_
          have n_ := Aside0.mk (HCF.out.below hb_); clear HCF; have HCF := n_; clear n_
          have n_ := Aside0.mk (below_step HB.out hb_); clear HB; have HB := n_; clear n_
          have BK_g9 := Aside0.mk hbox_
          clear hbox_ hg_
          refine hK.out _ _ (lk_keep hb_ hHeld) (fun hHeld => ?_)
          clear hK K
          refine norm_ (a' := ?_) ?_ ?_
          rotate_left
          · show Act.put _ (some 9) _ = _
            simp only [Act.put, List.setIfInBounds_toArray, List.set_cons_zero, List.set_cons_succ, i64_w, i32_w]
            rfl
          refine last_ (i := 14) (N := none) #[true, true, true, true, true, true, true, true, true, true, true, true, true, true, true, false] rfl rfl (one_of HT_.out (by kernel_rfl)) (by decide) (fun K hK => ?_)
          have hs0 : w33.cell? ⟨g9, 0, none⟩ = some (.slice none 0 0) := (blk_cell BK_g9.out 0).trans rfl
          have hs1 : w33.cell? ⟨g9, 1, none⟩ = some (.slice none 0 0) := (blk_cell BK_g9.out 1).trans rfl
          have hf0 := blk_frozen BK_g9.out 0
          have hf1 := blk_frozen BK_g9.out 1
          refine skip_ (w1 := ?_) (by rfl) rfl ?_ ?_
          rotate_left
          · go_simp
            rfl
          refine hK.out _ _ ?_
          clear hK K
          refine pure_ (i := 15) (N := some 10) (v := ?_) (a' := ?_) #[true, true, true, true, true, true, true, true, true, true, true, true, true, true, true, true] rfl rfl (any_of HT_.out (by kernel_rfl)) (fun _ _ _ h => h) (Or.inl ⟨by rfl, ?_⟩) ?_ ?_
          rotate_left
          · intro w'
            go_simp
            with_reducible rfl
          rotate_left
          · simp only [Act.put, List.setIfInBounds_toArray, List.set_cons_zero, List.set_cons_succ, i64_w, i32_w]
            rfl
          refine done_ (done_of HT_.out (by kernel_rfl)) ?_
          clear hHeld
          have n_ := Aside0.mk (blk_far (blk_far BK_g4.out (p := ⟨g9, 0, none⟩) NE_g4_g9.out (.slice F0 (ws_step M b).length f0)) (p := ⟨g9, 1, none⟩) NE_g4_g9.out (.slice F1 0 f1)); clear BK_g4; have BK_g4 := n_; clear n_
          have n_ := Aside0.mk (blk_far (blk_far BK_g5.out (p := ⟨g9, 0, none⟩) NE_g5_g9.out (.slice F0 (ws_step M b).length f0)) (p := ⟨g9, 1, none⟩) NE_g5_g9.out (.slice F1 0 f1)); clear BK_g5; have BK_g5 := n_; clear n_
          have n_ := Aside0.mk (blk_far (blk_far BK_g7.out (p := ⟨g9, 0, none⟩) NE_g7_g9.out (.slice F0 (ws_step M b).length f0)) (p := ⟨g9, 1, none⟩) NE_g7_g9.out (.slice F1 0 f1)); clear BK_g7; have BK_g7 := n_; clear n_
          have n_ := Aside0.mk ((HCL.out.set BK_g9.out (by decide) 0 (.slice F0 (ws_step M b).length f0)).set (blk_put (cs' := #[.slice F0 (ws_step M b).length f0, .slice none 0 0]) BK_g9.out 0 (.slice F0 (ws_step M b).length f0) rfl) (by decide) 1 (.slice F1 0 f1)); clear HCL; have HCL := n_; clear n_
          have n_ := Aside0.mk ((HCM.out.set BK_g9.out (by decide) 0 (.slice F0 (ws_step M b).length f0)).set (blk_put (cs' := #[.slice F0 (ws_step M b).length f0, .slice none 0 0]) BK_g9.out 0 (.slice F0 (ws_step M b).length f0) rfl) (by decide) 1 (.slice F1 0 f1)); clear HCM; have HCM := n_; clear n_
          have n_ := Aside0.mk ((HCA.out.set BK_g9.out (by decide) 0 (.slice F0 (ws_step M b).length f0)).set (blk_put (cs' := #[.slice F0 (ws_step M b).length f0, .slice none 0 0]) BK_g9.out 0 (.slice F0 (ws_step M b).length f0) rfl) (by decide) 1 (.slice F1 0 f1)); clear HCA; have HCA := n_; clear n_
          have n_ := Aside0.mk ((HCE.out.set BK_g9.out (by decide) 0 (.slice F0 (ws_step M b).length f0)).set (blk_put (cs' := #[.slice F0 (ws_step M b).length f0, .slice none 0 0]) BK_g9.out 0 (.slice F0 (ws_step M b).length f0) rfl) (by decide) 1 (.slice F1 0 f1)); clear HCE; have HCE := n_; clear n_
          have n_ := Aside0.mk ((HCF.out.set BK_g9.out (by decide) 0 (.slice F0 (ws_step M b).length f0)).set (blk_put (cs' := #[.slice F0 (ws_step M b).length f0, .slice none 0 0]) BK_g9.out 0 (.slice F0 (ws_step M b).length f0) rfl) (by decide) 1 (.slice F1 0 f1)); clear HCF; have HCF := n_; clear n_
          have n_ := Aside0.mk (below_set (j := 1) (v := .slice F1 0 f1) (below_set (j := 0) (v := .slice F0 (ws_step M b).length f0) HB.out GE_g9.out) GE_g9.out); clear HB; have HB := n_; clear n_
          have n_ := Aside0.mk (blk_put (cs' := #[.slice F0 (ws_step M b).length f0, .slice F1 0 f1]) (blk_put (cs' := #[.slice F0 (ws_step M b).length f0, .slice none 0 0]) BK_g9.out 0 (.slice F0 (ws_step M b).length f0) rfl) 1 (.slice F1 0 f1) rfl); clear BK_g9; have BK_g9 := n_; clear n_
          clear hs0 hs1 hf0 hf1
          generalize (w33.setCell ⟨g9, 0, none⟩ (.slice F0 (ws_step M b).length f0)).setCell ⟨g9, 1, none⟩ (.slice F1 0 f1) = w34 at BK_g4 BK_g5 BK_g7 BK_g9 HCL HCM HCA HCE HCF HB ⊢
          try go_wp2
          refine start_ (n := 4) (S := (fun w' => w'.cell? ⟨g7, 0, none⟩ = some (.slice E0 (ws_step H a).length e0) ∧ w'.cell? ⟨g7, 1, none⟩ = some (.slice E1 0 e1) ∧ w'.cell? ⟨g9, 0, none⟩ = some (.slice F0 (ws_step M b).length f0) ∧ w'.cell? ⟨g9, 1, none⟩ = some (.slice F1 0 f1))) (ds := [3]) #[false, false, false, false] (by kernel_rfl) rfl rfl ⟨(blk_cell BK_g7.out 0).trans rfl, (blk_cell BK_g7.out 1).trans rfl, (blk_cell BK_g9.out 0).trans rfl, (blk_cell BK_g9.out 1).trans rfl⟩ (fun hHeld => ?_); refine with_tabW ws_l13_tab ws_l13_bits (fun HT_ HW_ => ?_)
          have n_ := Aside0.mk (blk_drew BK_g4.out); clear BK_g4; have BK_g4 := n_; clear n_
          have n_ := Aside0.mk (blk_drew BK_g5.out); clear BK_g5; have BK_g5 := n_; clear n_
          have n_ := Aside0.mk (blk_drew BK_g7.out); clear BK_g7; have BK_g7 := n_; clear n_
          have n_ := Aside0.mk (blk_drew BK_g9.out); clear BK_g9; have BK_g9 := n_; clear n_
          have n_ := Aside0.mk (HCL.out.below (below_drew (Below.refl _ _))); clear HCL; have HCL := n_; clear n_
          have n_ := Aside0.mk (HCM.out.below (below_drew (Below.refl _ _))); clear HCM; have HCM := n_; clear n_
          have n_ := Aside0.mk (HCA.out.below (below_drew (Below.refl _ _))); clear HCA; have HCA := n_; clear n_
          have n_ := Aside0.mk (HCE.out.below (below_drew (Below.refl _ _))); clear HCE; have HCE := n_; clear n_
          have n_ := Aside0.mk (HCF.out.below (below_drew (Below.refl _ _))); clear HCF; have HCF := n_; clear n_
          have n_ := Aside0.mk (below_drew1 HB.out); clear HB; have HB := n_; clear n_
          generalize w34.drew = w35 at BK_g4 BK_g5 BK_g7 BK_g9 HCL HCM HCA HCE HCF HB hHeld ⊢
          refine take_ (i := 0) (N := some 53) (v := ?_) (a' := ?_) #[true, false, false, false] rfl rfl (take_ofW HT_.out HW_.out (by kernel_rfl)) (fun _ _ _ h => h) (Or.inl ⟨by rfl, ?_⟩) hHeld ?_ ?_
          rotate_left
          · rintro w' ⟨s0, s1, s2, s3⟩
            go_simp
            with_reducible rfl
          rotate_left
          · simp only [Act.put, List.setIfInBounds_toArray, List.set_cons_zero, List.set_cons_succ, i64_w, i32_w]
            rfl
          refine take_ (i := 1) (N := some 54) (v := ?_) (a' := ?_) #[true, true, false, false] rfl rfl (take_ofW HT_.out HW_.out (by kernel_rfl)) (fun _ _ _ h => h) (Or.inl ⟨by rfl, ?_⟩) hHeld ?_ ?_
          rotate_left
          · rintro w' ⟨s0, s1, s2, s3⟩
            go_simp
            with_reducible rfl
          rotate_left
          · simp only [Act.put, List.setIfInBounds_toArray, List.set_cons_zero, List.set_cons_succ, i64_w, i32_w]
            rfl
          refine one_ (i := 2) (N := none) #[true, true, true, false] rfl rfl (one_of HT_.out (by kernel_rfl)) (by decide) (fun K hK => ?_)
          have hs0 : w35.cell? ⟨g4, 0, none⟩ = some (.slice B0 H.length b0) := (blk_cell BK_g4.out 0).trans rfl
          have hs1 : w35.cell? ⟨g4, 1, none⟩ = some (.slice B1 0 b1) := (blk_cell BK_g4.out 1).trans rfl
          have hf0 := blk_frozen BK_g4.out 0
          have hf1 := blk_frozen BK_g4.out 1
          refine skip_ (w1 := ?_) (by rfl) rfl ?_ ?_
          rotate_left
          · go_simp
            rfl
          clear hHeld
          have n_ := Aside0.mk (blk_far (blk_far BK_g5.out (p := ⟨g4, 0, none⟩) NE_g5_g4.out (.slice E0 (ws_step H a).length e0)) (p := ⟨g4, 1, none⟩) NE_g5_g4.out (.slice E1 0 e1)); clear BK_g5; have BK_g5 := n_; clear n_
          have n_ := Aside0.mk (blk_far (blk_far BK_g7.out (p := ⟨g4, 0, none⟩) NE_g7_g4.out (.slice E0 (ws_step H a).length e0)) (p := ⟨g4, 1, none⟩) NE_g7_g4.out (.slice E1 0 e1)); clear BK_g7; have BK_g7 := n_; clear n_
          have n_ := Aside0.mk (blk_far (blk_far BK_g9.out (p := ⟨g4, 0, none⟩) NE_g9_g4.out (.slice E0 (ws_step H a).length e0)) (p := ⟨g4, 1, none⟩) NE_g9_g4.out (.slice E1 0 e1)); clear BK_g9; have BK_g9 := n_; clear n_
          have n_ := Aside0.mk ((HCL.out.set BK_g4.out (by decide) 0 (.slice E0 (ws_step H a).length e0)).set (blk_put (cs' := #[.slice E0 (ws_step H a).length e0, .slice B1 0 b1]) BK_g4.out 0 (.slice E0 (ws_step H a).length e0) rfl) (by decide) 1 (.slice E1 0 e1)); clear HCL; have HCL := n_; clear n_
          have n_ := Aside0.mk ((HCM.out.set BK_g4.out (by decide) 0 (.slice E0 (ws_step H a).length e0)).set (blk_put (cs' := #[.slice E0 (ws_step H a).length e0, .slice B1 0 b1]) BK_g4.out 0 (.slice E0 (ws_step H a).length e0) rfl) (by decide) 1 (.slice E1 0 e1)); clear HCM; have HCM := n_; clear n_
          have n_ := Aside0.mk ((HCA.out.set BK_g4.out (by decide) 0 (.slice E0 (ws_step H a).length e0)).set (blk_put (cs' := #[.slice E0 (ws_step H a).length e0, .slice B1 0 b1]) BK_g4.out 0 (.slice E0 (ws_step H a).length e0) rfl) (by decide) 1 (.slice E1 0 e1)); clear HCA; have HCA := n_; clear n_
          have n_ := Aside0.mk ((HCE.out.set BK_g4.out (by decide) 0 (.slice E0 (ws_step H a).length e0)).set (blk_put (cs' := #[.slice E0 (ws_step H a).length e0, .slice B1 0 b1]) BK_g4.out 0 (.slice E0 (ws_step H a).length e0) rfl) (by decide) 1 (.slice E1 0 e1)); clear HCE; have HCE := n_; clear n_
          have n_ := Aside0.mk ((HCF.out.set BK_g4.out (by decide) 0 (.slice E0 (ws_step H a).length e0)).set (blk_put (cs' := #[.slice E0 (ws_step H a).length e0, .slice B1 0 b1]) BK_g4.out 0 (.slice E0 (ws_step H a).length e0) rfl) (by decide) 1 (.slice E1 0 e1)); clear HCF; have HCF := n_; clear n_
          have n_ := Aside0.mk (below_set (j := 1) (v := .slice E1 0 e1) (below_set (j := 0) (v := .slice E0 (ws_step H a).length e0) HB.out GE_g4.out) GE_g4.out); clear HB; have HB := n_; clear n_
          have n_ := Aside0.mk (blk_put (cs' := #[.slice E0 (ws_step H a).length e0, .slice E1 0 e1]) (blk_put (cs' := #[.slice E0 (ws_step H a).length e0, .slice B1 0 b1]) BK_g4.out 0 (.slice E0 (ws_step H a).length e0) rfl) 1 (.slice E1 0 e1) rfl); clear BK_g4; have BK_g4 := n_; clear n_
          clear hs0 hs1 hf0 hf1
          generalize (w35.setCell ⟨g4, 0, none⟩ (.slice E0 (ws_step H a).length e0)).setCell ⟨g4, 1, none⟩ (.slice E1 0 e1) = w36 at BK_g4 BK_g5 BK_g7 BK_g9 HCL HCM HCA HCE HCF HB ⊢
          refine hK.out _ _ ⟨(blk_cell BK_g7.out 0).trans rfl, (blk_cell BK_g7.out 1).trans rfl, (blk_cell BK_g9.out 0).trans rfl, (blk_cell BK_g9.out 1).trans rfl⟩ (fun hHeld => ?_)
          clear hK K
          refine last_ (i := 3) (N := none) #[true, true, true, true] rfl rfl (one_of HT_.out (by kernel_rfl)) (by decide) (fun K hK => ?_)
          have hs0 : w36.cell? ⟨g5, 0, none⟩ = some (.slice D0 M.length d0) := (blk_cell BK_g5.out 0).trans rfl
          have hs1 : w36.cell? ⟨g5, 1, none⟩ = some (.slice D1 0 d1) := (blk_cell BK_g5.out 1).trans rfl
          have hf0 := blk_frozen BK_g5.out 0
          have hf1 := blk_frozen BK_g5.out 1
          refine skip_ (w1 := ?_) (by rfl) rfl ?_ ?_
          rotate_left
          · go_simp
            rfl
          refine hK.out _ _ ?_
          clear hK K hHeld
          refine done_ (done_of HT_.out (by kernel_rfl)) ?_
          have n_ := Aside0.mk (blk_far (blk_far BK_g4.out (p := ⟨g5, 0, none⟩) NE_g4_g5.out (.slice F0 (ws_step M b).length f0)) (p := ⟨g5, 1, none⟩) NE_g4_g5.out (.slice F1 0 f1)); clear BK_g4; have BK_g4 := n_; clear n_
          have n_ := Aside0.mk (blk_far (blk_far BK_g7.out (p := ⟨g5, 0, none⟩) NE_g7_g5.out (.slice F0 (ws_step M b).length f0)) (p := ⟨g5, 1, none⟩) NE_g7_g5.out (.slice F1 0 f1)); clear BK_g7; have BK_g7 := n_; clear n_
          have n_ := Aside0.mk (blk_far (blk_far BK_g9.out (p := ⟨g5, 0, none⟩) NE_g9_g5.out (.slice F0 (ws_step M b).length f0)) (p := ⟨g5, 1, none⟩) NE_g9_g5.out (.slice F1 0 f1)); clear BK_g9; have BK_g9 := n_; clear n_
          have n_ := Aside0.mk ((HCL.out.set BK_g5.out (by decide) 0 (.slice F0 (ws_step M b).length f0)).set (blk_put (cs' := #[.slice F0 (ws_step M b).length f0, .slice D1 0 d1]) BK_g5.out 0 (.slice F0 (ws_step M b).length f0) rfl) (by decide) 1 (.slice F1 0 f1)); clear HCL; have HCL := n_; clear n_
          have n_ := Aside0.mk ((HCM.out.set BK_g5.out (by decide) 0 (.slice F0 (ws_step M b).length f0)).set (blk_put (cs' := #[.slice F0 (ws_step M b).length f0, .slice D1 0 d1]) BK_g5.out 0 (.slice F0 (ws_step M b).length f0) rfl) (by decide) 1 (.slice F1 0 f1)); clear HCM; have HCM := n_; clear n_
          have n_ := Aside0.mk ((HCA.out.set BK_g5.out (by decide) 0 (.slice F0 (ws_step M b).length f0)).set (blk_put (cs' := #[.slice F0 (ws_step M b).length f0, .slice D1 0 d1]) BK_g5.out 0 (.slice F0 (ws_step M b).length f0) rfl) (by decide) 1 (.slice F1 0 f1)); clear HCA; have HCA := n_; clear n_
          have n_ := Aside0.mk ((HCE.out.set BK_g5.out (by decide) 0 (.slice F0 (ws_step M b).length f0)).set (blk_put (cs' := #[.slice F0 (ws_step M b).length f0, .slice D1 0 d1]) BK_g5.out 0 (.slice F0 (ws_step M b).length f0) rfl) (by decide) 1 (.slice F1 0 f1)); clear HCE; have HCE := n_; clear n_
          have n_ := Aside0.mk ((HCF.out.set BK_g5.out (by decide) 0 (.slice F0 (ws_step M b).length f0)).set (blk_put (cs' := #[.slice F0 (ws_step M b).length f0, .slice D1 0 d1]) BK_g5.out 0 (.slice F0 (ws_step M b).length f0) rfl) (by decide) 1 (.slice F1 0 f1)); clear HCF; have HCF := n_; clear n_
          have n_ := Aside0.mk (below_set (j := 1) (v := .slice F1 0 f1) (below_set (j := 0) (v := .slice F0 (ws_step M b).length f0) HB.out GE_g5.out) GE_g5.out); clear HB; have HB := n_; clear n_
          have n_ := Aside0.mk (blk_put (cs' := #[.slice F0 (ws_step M b).length f0, .slice F1 0 f1]) (blk_put (cs' := #[.slice F0 (ws_step M b).length f0, .slice D1 0 d1]) BK_g5.out 0 (.slice F0 (ws_step M b).length f0) rfl) 1 (.slice F1 0 f1) rfl); clear BK_g5; have BK_g5 := n_; clear n_
          clear hs0 hs1 hf0 hf1
          generalize (w36.setCell ⟨g5, 0, none⟩ (.slice F0 (ws_step M b).length f0)).setCell ⟨g5, 1, none⟩ (.slice F1 0 f1) = w37 at BK_g4 BK_g5 BK_g7 BK_g9 HCL HCM HCA HCE HCF HB ⊢
          try go_wp2
          go_roundg (n - (kk + 1))
          case measure => omega
          case rel => exact ⟨kk + 1, E0, e0, E1, e1, F0, f0, F1, f1, by go_num, by omega, by omega, ⟨by rw [HSH.out]; exact BK_g4.out⟩, ⟨by rw [HSM.out]; exact BK_g5.out⟩, ⟨by rw [HSH.out]; exact ⟨HCE.out, HEE.out⟩⟩, ⟨by rw [HSM.out]; exact ⟨HCF.out, HFF.out⟩⟩, HCA, HB⟩
        · skip
          refine box_step (by rfl) (N := 9) rfl (cs := #[.slice none 0 0, .slice none 0 0]) (t := 53) (by first | (go_simp; done) | (go_simp; rfl)) ?_
          intro g9 hg_ w38 hbox_ hb_
          have GE_g9 : Aside0 (w.heap.size ≤ g9) := ⟨by rw [hg_]; exact below_size HB.out⟩
          have NE_g4_g9 : Aside0 (g4 ≠ g9) := ⟨by rw [hg_]; exact Nat.ne_of_lt (blk_lt BK_g4.out)⟩
          have NE_g9_g4 : Aside0 (g9 ≠ g4) := ⟨fun he_ => NE_g4_g9.out he_.symm⟩
          have NE_g5_g9 : Aside0 (g5 ≠ g9) := ⟨by rw [hg_]; exact Nat.ne_of_lt (blk_lt BK_g5.out)⟩
          have NE_g9_g5 : Aside0 (g9 ≠ g5) := ⟨fun he_ => NE_g5_g9.out he_.symm⟩
          have NE_g7_g9 : Aside0 (g7 ≠ g9) := ⟨by rw [hg_]; exact Nat.ne_of_lt (blk_lt BK_g7.out)⟩
          have NE_g9_g7 : Aside0 (g9 ≠ g7) := ⟨fun he_ => NE_g7_g9.out he_.symm⟩
          have n_ := Aside0.mk (blk_below BK_g4.out hb_); clear BK_g4; have BK_g4 := n_; clear n_
          have n_ := Aside0.mk (blk_below BK_g5.out hb_); clear BK_g5; have BK_g5 := n_; clear n_
          have n_ := Aside0.mk (blk_below BK_g7.out hb_); clear BK_g7; have BK_g7 := n_; clear n_
          have n_ := Aside0.mk (HCL.out.below hb_); clear HCL; have HCL := n_; clear n_
          have n_ := Aside0.mk (HCM.out.below hb_); clear HCM; have HCM := n_; clear n_
          have n_ := Aside0.mk (HCA.out.below hb_); clear HCA; have HCA := n_; clear n_
          have n_ := Aside0.mk (HCE.out.below hb_); clear HCE; have HCE := n_; clear n_
          have n_ := Aside0.mk (below_step HB.out hb_); clear HB; have HB := n_; clear n_
          have BK_g9 := Aside0.mk hbox_
          clear hbox_ hg_
          refine hK.out _ _ (lk_keep hb_ hHeld) (fun hHeld => ?_)
          clear hK K
          refine norm_ (a' := ?_) ?_ ?_
          rotate_left
          · show Act.put _ (some 9) _ = _
            simp only [Act.put, List.setIfInBounds_toArray, List.set_cons_zero, List.set_cons_succ, i64_w, i32_w]
            rfl
          refine one_ (i := 9) (N := some 44) #[true, true, true, true, true, true, true, true, true, true, false, false, false, true, false, false] rfl rfl (one_of HT_.out (by kernel_rfl)) (by decide) (fun K hK => ?_)
          refine goes_ Try.func30 (by kernel_rfl) rfl #[.agg #[.slice D0 M.length d0, .slice D1 0 d1], .agg #[.int .i64 b.f0, .int .i64 b.f1, .int .i64 b.f2]] (by rfl) rfl rfl (by (try simp only [List.map_toArray, List.map_cons, List.map_nil]); first | done | rfl) ?_
          with_reducible refine (ws_ask D0 d0 M D1 d1 b _ HCM.out HBM.out HLM.out HGM.out HFB.out).mono ?_
          rintro e w39 ⟨F0, f0, F1, f1, rfl, ho_, hoc_, hb_⟩
          refine ⟨_, rfl, ?_⟩
          have HFF := Aside0.mk hoc_
          have HCF := Aside0.mk ho_
          clear ho_ hoc_
          have n_ := Aside0.mk (blk_below BK_g4.out hb_); clear BK_g4; have BK_g4 := n_; clear n_
          have n_ := Aside0.mk (blk_below BK_g5.out hb_); clear BK_g5; have BK_g5 := n_; clear n_
          have n_ := Aside0.mk (blk_below BK_g7.out hb_); clear BK_g7; have BK_g7 := n_; clear n_
          have n_ := Aside0.mk (blk_below BK_g9.out hb_); clear BK_g9; have BK_g9 := n_; clear n_
          have n_ := Aside0.mk (HCL.out.below hb_); clear HCL; have HCL := n_; clear n_
          have n_ := Aside0.mk (HCM.out.below hb_); clear HCM; have HCM := n_; clear n_
          have n_ := Aside0.mk (HCA.out.below hb_); clear HCA; have HCA := n_; clear n_
          have n_ := Aside0.mk (HCE.out.below hb_); clear HCE; have HCE := n_; clear n_
          have n_ := Aside0.mk (below_step HB.out hb_); clear HB; have HB := n_; clear n_
          refine hK.out _ _ (lk_keep hb_ hHeld) (fun hHeld => ?_)
          clear hK K
          refine norm_ (a' := ?_) ?_ ?_
          rotate_left
          · show Act.put _ (some 44) _ = _
            simp only [Act.put, List.setIfInBounds_toArray, List.set_cons_zero, List.set_cons_succ, i64_w, i32_w]
            rfl
          refine pure_ (i := 10) (N := some 34) (v := ?_) (a' := ?_) #[true, true, true, true, true, true, true, true, true, true, true, false, false, true, false, false] rfl rfl (any_of HT_.out (by kernel_rfl)) (fun _ _ _ h => h) (Or.inl ⟨by rfl, ?_⟩) ?_ ?_
          rotate_left
          · intro w'
            go_simp
            with_reducible rfl
          rotate_left
          · simp only [Act.put, List.setIfInBounds_toArray, List.set_cons_zero, List.set_cons_succ, i64_w, i32_w]
            rfl
          refine pure_ (i := 11) (N := some 45) (v := ?_) (a' := ?_) #[true, true, true, true, true, true, true, true, true, true, true, true, false, true, false, false] rfl rfl (any_of HT_.out (by kernel_rfl)) (fun _ _ _ h => h) (Or.inl ⟨by rfl, ?_⟩) ?_ ?_
          rotate_left
          · intro w'
            go_simp
            with_reducible rfl
          rotate_left
          · simp only [Act.put, List.setIfInBounds_toArray, List.set_cons_zero, List.set_cons_succ, i64_w, i32_w]
            rfl
          refine pure_ (i := 12) (N := some 46) (v := ?_) (a' := ?_) #[true, true, true, true, true, true, true, true, true, true, true, true, true, true, false, false] rfl rfl (any_of HT_.out (by kernel_rfl)) (fun _ _ _ h => h) (Or.inl ⟨by rfl, ?_⟩) ?_ ?_
          rotate_left
          · intro w'
            go_simp
            with_reducible rfl
          rotate_left
          · simp only [Act.put, List.setIfInBounds_toArray, List.set_cons_zero, List.set_cons_succ, i64_w, i32_w]
            rfl
          refine last_ (i := 14) (N := none) #[true, true, true, true, true, true, true, true, true, true, true, true, true, true, true, false] rfl rfl (one_of HT_.out (by kernel_rfl)) (by decide) (fun K hK => ?_)
          have hs0 : w39.cell? ⟨g9, 0, none⟩ = some (.slice none 0 0) := (blk_cell BK_g9.out 0).trans rfl
          have hs1 : w39.cell? ⟨g9, 1, none⟩ = some (.slice none 0 0) := (blk_cell BK_g9.out 1).trans rfl
          have hf0 := blk_frozen BK_g9.out 0
          have hf1 := blk_frozen BK_g9.out 1
          refine skip_ (w1 := ?_) (by rfl) rfl ?_ ?_
          rotate_left
          · go_simp
            rfl
          refine hK.out _ _ ?_
          clear hK K
          refine pure_ (i := 15) (N := some 10) (v := ?_) (a' := ?_) #[true, true, true, true, true, true, true, true, true, true, true, true, true, true, true, true] rfl rfl (any_of HT_.out (by kernel_rfl)) (fun _ _ _ h => h) (Or.inl ⟨by rfl, ?_⟩) ?_ ?_
          rotate_left
          · intro w'
            go_simp
            with_reducible rfl
          rotate_left
          · simp only [Act.put, List.setIfInBounds_toArray, List.set_cons_zero, List.set_cons_succ, i64_w, i32_w]
            rfl
          refine done_ (done_of HT_.out (by kernel_rfl)) ?_
          clear hHeld
          have n_ := Aside0.mk (blk_far (blk_far BK_g4.out (p := ⟨g9, 0, none⟩) NE_g4_g9.out (.slice F0 (ws_step M b).length f0)) (p := ⟨g9, 1, none⟩) NE_g4_g9.out (.slice F1 0 f1)); clear BK_g4; have BK_g4 := n_; clear n_
          have n_ := Aside0.mk (blk_far (blk_far BK_g5.out (p := ⟨g9, 0, none⟩) NE_g5_g9.out (.slice F0 (ws_step M b).length f0)) (p := ⟨g9, 1, none⟩) NE_g5_g9.out (.slice F1 0 f1)); clear BK_g5; have BK_g5 := n_; clear n_
          have n_ := Aside0.mk (blk_far (blk_far BK_g7.out (p := ⟨g9, 0, none⟩) NE_g7_g9.out (.slice F0 (ws_step M b).length f0)) (p := ⟨g9, 1, none⟩) NE_g7_g9.out (.slice F1 0 f1)); clear BK_g7; have BK_g7 := n_; clear n_
          have n_ := Aside0.mk ((HCL.out.set BK_g9.out (by decide) 0 (.slice F0 (ws_step M b).length f0)).set (blk_put (cs' := #[.slice F0 (ws_step M b).length f0, .slice none 0 0]) BK_g9.out 0 (.slice F0 (ws_step M b).length f0) rfl) (by decide) 1 (.slice F1 0 f1)); clear HCL; have HCL := n_; clear n_
          have n_ := Aside0.mk ((HCM.out.set BK_g9.out (by decide) 0 (.slice F0 (ws_step M b).length f0)).set (blk_put (cs' := #[.slice F0 (ws_step M b).length f0, .slice none 0 0]) BK_g9.out 0 (.slice F0 (ws_step M b).length f0) rfl) (by decide) 1 (.slice F1 0 f1)); clear HCM; have HCM := n_; clear n_
          have n_ := Aside0.mk ((HCA.out.set BK_g9.out (by decide) 0 (.slice F0 (ws_step M b).length f0)).set (blk_put (cs' := #[.slice F0 (ws_step M b).length f0, .slice none 0 0]) BK_g9.out 0 (.slice F0 (ws_step M b).length f0) rfl) (by decide) 1 (.slice F1 0 f1)); clear HCA; have HCA := n_; clear n_
          have n_ := Aside0.mk ((HCE.out.set BK_g9.out (by decide) 0 (.slice F0 (ws_step M b).length f0)).set (blk_put (cs' := #[.slice F0 (ws_step M b).length f0, .slice none 0 0]) BK_g9.out 0 (.slice F0 (ws_step M b).length f0) rfl) (by decide) 1 (.slice F1 0 f1)); clear HCE; have HCE := n_; clear n_
          have n_ := Aside0.mk ((HCF.out.set BK_g9.out (by decide) 0 (.slice F0 (ws_step M b).length f0)).set (blk_put (cs' := #[.slice F0 (ws_step M b).length f0, .slice none 0 0]) BK_g9.out 0 (.slice F0 (ws_step M b).length f0) rfl) (by decide) 1 (.slice F1 0 f1)); clear HCF; have HCF := n_; clear n_
          have n_ := Aside0.mk (below_set (j := 1) (v := .slice F1 0 f1) (below_set (j := 0) (v := .slice F0 (ws_step M b).length f0) HB.out GE_g9.out) GE_g9.out); clear HB; have HB := n_; clear n_
          have n_ := Aside0.mk (blk_put (cs' := #[.slice F0 (ws_step M b).length f0, .slice F1 0 f1]) (blk_put (cs' := #[.slice F0 (ws_step M b).length f0, .slice none 0 0]) BK_g9.out 0 (.slice F0 (ws_step M b).length f0) rfl) 1 (.slice F1 0 f1) rfl); clear BK_g9; have BK_g9 := n_; clear n_
          clear hs0 hs1 hf0 hf1
          generalize (w39.setCell ⟨g9, 0, none⟩ (.slice F0 (ws_step M b).length f0)).setCell ⟨g9, 1, none⟩ (.slice F1 0 f1) = w40 at BK_g4 BK_g5 BK_g7 BK_g9 HCL HCM HCA HCE HCF HB ⊢
          try go_wp2
          refine start_ (n := 4) (S := (fun w' => w'.cell? ⟨g7, 0, none⟩ = some (.slice E0 (ws_step H a).length e0) ∧ w'.cell? ⟨g7, 1, none⟩ = some (.slice E1 0 e1) ∧ w'.cell? ⟨g9, 0, none⟩ = some (.slice F0 (ws_step M b).length f0) ∧ w'.cell? ⟨g9, 1, none⟩ = some (.slice F1 0 f1))) (ds := [3]) #[false, false, false, false] (by kernel_rfl) rfl rfl ⟨(blk_cell BK_g7.out 0).trans rfl, (blk_cell BK_g7.out 1).trans rfl, (blk_cell BK_g9.out 0).trans rfl, (blk_cell BK_g9.out 1).trans rfl⟩ (fun hHeld => ?_); refine with_tabW ws_l13_tab ws_l13_bits (fun HT_ HW_ => ?_)
          have n_ := Aside0.mk (blk_drew BK_g4.out); clear BK_g4; have BK_g4 := n_; clear n_
          have n_ := Aside0.mk (blk_drew BK_g5.out); clear BK_g5; have BK_g5 := n_; clear n_
          have n_ := Aside0.mk (blk_drew BK_g7.out); clear BK_g7; have BK_g7 := n_; clear n_
          have n_ := Aside0.mk (blk_drew BK_g9.out); clear BK_g9; have BK_g9 := n_; clear n_
          have n_ := Aside0.mk (HCL.out.below (below_drew (Below.refl _ _))); clear HCL; have HCL := n_; clear n_
          have n_ := Aside0.mk (HCM.out.below (below_drew (Below.refl _ _))); clear HCM; have HCM := n_; clear n_
          have n_ := Aside0.mk (HCA.out.below (below_drew (Below.refl _ _))); clear HCA; have HCA := n_; clear n_
          have n_ := Aside0.mk (HCE.out.below (below_drew (Below.refl _ _))); clear HCE; have HCE := n_; clear n_
          have n_ := Aside0.mk (HCF.out.below (below_drew (Below.refl _ _))); clear HCF; have HCF := n_; clear n_
          have n_ := Aside0.mk (below_drew1 HB.out); clear HB; have HB := n_; clear n_
          generalize w40.drew = w41 at BK_g4 BK_g5 BK_g7 BK_g9 HCL HCM HCA HCE HCF HB hHeld ⊢
          refine take_ (i := 0) (N := some 53) (v := ?_) (a' := ?_) #[true, false, false, false] rfl rfl (take_ofW HT_.out HW_.out (by kernel_rfl)) (fun _ _ _ h => h) (Or.inl ⟨by rfl, ?_⟩) hHeld ?_ ?_
          rotate_left
          · rintro w' ⟨s0, s1, s2, s3⟩
            go_simp
            with_reducible rfl
          rotate_left
          · simp only [Act.put, List.setIfInBounds_toArray, List.set_cons_zero, List.set_cons_succ, i64_w, i32_w]
            rfl
          refine take_ (i := 1) (N := some 54) (v := ?_) (a' := ?_) #[true, true, false, false] rfl rfl (take_ofW HT_.out HW_.out (by kernel_rfl)) (fun _ _ _ h => h) (Or.inl ⟨by rfl, ?_⟩) hHeld ?_ ?_
          rotate_left
          · rintro w' ⟨s0, s1, s2, s3⟩
            go_simp
            with_reducible rfl
          rotate_left
          · simp only [Act.put, List.setIfInBounds_toArray, List.set_cons_zero, List.set_cons_succ, i64_w, i32_w]
            rfl
          refine one_ (i := 2) (N := none) #[true, true, true, false] rfl rfl (one_of HT_.out (by kernel_rfl)) (by decide) (fun K hK => ?_)
          have hs0 : w41.cell? ⟨g4, 0, none⟩ = some (.slice B0 H.length b0) := (blk_cell BK_g4.out 0).trans rfl
          have hs1 : w41.cell? ⟨g4, 1, none⟩ = some (.slice B1 0 b1) := (blk_cell BK_g4.out 1).trans rfl
          have hf0 := blk_frozen BK_g4.out 0
          have hf1 := blk_frozen BK_g4.out 1
          refine skip_ (w1 := ?_) (by rfl) rfl ?_ ?_
          rotate_left
          · go_simp
            rfl
          clear hHeld
          have n_ := Aside0.mk (blk_far (blk_far BK_g5.out (p := ⟨g4, 0, none⟩) NE_g5_g4.out (.slice E0 (ws_step H a).length e0)) (p := ⟨g4, 1, none⟩) NE_g5_g4.out (.slice E1 0 e1)); clear BK_g5; have BK_g5 := n_; clear n_
          have n_ := Aside0.mk (blk_far (blk_far BK_g7.out (p := ⟨g4, 0, none⟩) NE_g7_g4.out (.slice E0 (ws_step H a).length e0)) (p := ⟨g4, 1, none⟩) NE_g7_g4.out (.slice E1 0 e1)); clear BK_g7; have BK_g7 := n_; clear n_
          have n_ := Aside0.mk (blk_far (blk_far BK_g9.out (p := ⟨g4, 0, none⟩) NE_g9_g4.out (.slice E0 (ws_step H a).length e0)) (p := ⟨g4, 1, none⟩) NE_g9_g4.out (.slice E1 0 e1)); clear BK_g9; have BK_g9 := n_; clear n_
          have n_ := Aside0.mk ((HCL.out.set BK_g4.out (by decide) 0 (.slice E0 (ws_step H a).length e0)).set (blk_put (cs' := #[.slice E0 (ws_step H a).length e0, .slice B1 0 b1]) BK_g4.out 0 (.slice E0 (ws_step H a).length e0) rfl) (by decide) 1 (.slice E1 0 e1)); clear HCL; have HCL := n_; clear n_
          have n_ := Aside0.mk ((HCM.out.set BK_g4.out (by decide) 0 (.slice E0 (ws_step H a).length e0)).set (blk_put (cs' := #[.slice E0 (ws_step H a).length e0, .slice B1 0 b1]) BK_g4.out 0 (.slice E0 (ws_step H a).length e0) rfl) (by decide) 1 (.slice E1 0 e1)); clear HCM; have HCM := n_; clear n_
          have n_ := Aside0.mk ((HCA.out.set BK_g4.out (by decide) 0 (.slice E0 (ws_step H a).length e0)).set (blk_put (cs' := #[.slice E0 (ws_step H a).length e0, .slice B1 0 b1]) BK_g4.out 0 (.slice E0 (ws_step H a).length e0) rfl) (by decide) 1 (.slice E1 0 e1)); clear HCA; have HCA := n_; clear n_
          have n_ := Aside0.mk ((HCE.out.set BK_g4.out (by decide) 0 (.slice E0 (ws_step H a).length e0)).set (blk_put (cs' := #[.slice E0 (ws_step H a).length e0, .slice B1 0 b1]) BK_g4.out 0 (.slice E0 (ws_step H a).length e0) rfl) (by decide) 1 (.slice E1 0 e1)); clear HCE; have HCE := n_; clear n_
          have n_ := Aside0.mk ((HCF.out.set BK_g4.out (by decide) 0 (.slice E0 (ws_step H a).length e0)).set (blk_put (cs' := #[.slice E0 (ws_step H a).length e0, .slice B1 0 b1]) BK_g4.out 0 (.slice E0 (ws_step H a).length e0) rfl) (by decide) 1 (.slice E1 0 e1)); clear HCF; have HCF := n_; clear n_
          have n_ := Aside0.mk (below_set (j := 1) (v := .slice E1 0 e1) (below_set (j := 0) (v := .slice E0 (ws_step H a).length e0) HB.out GE_g4.out) GE_g4.out); clear HB; have HB := n_; clear n_
          have n_ := Aside0.mk (blk_put (cs' := #[.slice E0 (ws_step H a).length e0, .slice E1 0 e1]) (blk_put (cs' := #[.slice E0 (ws_step H a).length e0, .slice B1 0 b1]) BK_g4.out 0 (.slice E0 (ws_step H a).length e0) rfl) 1 (.slice E1 0 e1) rfl); clear BK_g4; have BK_g4 := n_; clear n_
          clear hs0 hs1 hf0 hf1
          generalize (w41.setCell ⟨g4, 0, none⟩ (.slice E0 (ws_step H a).length e0)).setCell ⟨g4, 1, none⟩ (.slice E1 0 e1) = w42 at BK_g4 BK_g5 BK_g7 BK_g9 HCL HCM HCA HCE HCF HB ⊢
          refine hK.out _ _ ⟨(blk_cell BK_g7.out 0).trans rfl, (blk_cell BK_g7.out 1).trans rfl, (blk_cell BK_g9.out 0).trans rfl, (blk_cell BK_g9.out 1).trans rfl⟩ (fun hHeld => ?_)
          clear hK K
          refine last_ (i := 3) (N := none) #[true, true, true, true] rfl rfl (one_of HT_.out (by kernel_rfl)) (by decide) (fun K hK => ?_)
          have hs0 : w42.cell? ⟨g5, 0, none⟩ = some (.slice D0 M.length d0) := (blk_cell BK_g5.out 0).trans rfl
          have hs1 : w42.cell? ⟨g5, 1, none⟩ = some (.slice D1 0 d1) := (blk_cell BK_g5.out 1).trans rfl
          have hf0 := blk_frozen BK_g5.out 0
          have hf1 := blk_frozen BK_g5.out 1
          refine skip_ (w1 := ?_) (by rfl) rfl ?_ ?_
          rotate_left
          · go_simp
            rfl
          refine hK.out _ _ ?_
          clear hK K hHeld
          refine done_ (done_of HT_.out (by kernel_rfl)) ?_
          have n_ := Aside0.mk (blk_far (blk_far BK_g4.out (p := ⟨g5, 0, none⟩) NE_g4_g5.out (.slice F0 (ws_step M b).length f0)) (p := ⟨g5, 1, none⟩) NE_g4_g5.out (.slice F1 0 f1)); clear BK_g4; have BK_g4 := n_; clear n_
          have n_ := Aside0.mk (blk_far (blk_far BK_g7.out (p := ⟨g5, 0, none⟩) NE_g7_g5.out (.slice F0 (ws_step M b).length f0)) (p := ⟨g5, 1, none⟩) NE_g7_g5.out (.slice F1 0 f1)); clear BK_g7; have BK_g7 := n_; clear n_
          have n_ := Aside0.mk (blk_far (blk_far BK_g9.out (p := ⟨g5, 0, none⟩) NE_g9_g5.out (.slice F0 (ws_step M b).length f0)) (p := ⟨g5, 1, none⟩) NE_g9_g5.out (.slice F1 0 f1)); clear BK_g9; have BK_g9 := n_; clear n_
          have n_ := Aside0.mk ((HCL.out.set BK_g5.out (by decide) 0 (.slice F0 (ws_step M b).length f0)).set (blk_put (cs' := #[.slice F0 (ws_step M b).length f0, .slice D1 0 d1]) BK_g5.out 0 (.slice F0 (ws_step M b).length f0) rfl) (by decide) 1 (.slice F1 0 f1)); clear HCL; have HCL := n_; clear n_
          have n_ := Aside0.mk ((HCM.out.set BK_g5.out (by decide) 0 (.slice F0 (ws_step M b).length f0)).set (blk_put (cs' := #[.slice F0 (ws_step M b).length f0, .slice D1 0 d1]) BK_g5.out 0 (.slice F0 (ws_step M b).length f0) rfl) (by decide) 1 (.slice F1 0 f1)); clear HCM; have HCM := n_; clear n_
          have n_ := Aside0.mk ((HCA.out.set BK_g5.out (by decide) 0 (.slice F0 (ws_step M b).length f0)).set (blk_put (cs' := #[.slice F0 (ws_step M b).length f0, .slice D1 0 d1]) BK_g5.out 0 (.slice F0 (ws_step M b).length f0) rfl) (by decide) 1 (.slice F1 0 f1)); clear HCA; have HCA := n_; clear n_
          have n_ := Aside0.mk ((HCE.out.set BK_g5.out (by decide) 0 (.slice F0 (ws_step M b).length f0)).set (blk_put (cs' := #[.slice F0 (ws_step M b).length f0, .slice D1 0 d1]) BK_g5.out 0 (.slice F0 (ws_step M b).length f0) rfl) (by decide) 1 (.slice F1 0 f1)); clear HCE; have HCE := n_; clear n_
          have n_ := Aside0.mk ((HCF.out.set BK_g5.out (by decide) 0 (.slice F0 (ws_step M b).length f0)).set (blk_put (cs' := #[.slice F0 (ws_step M b).length f0, .slice D1 0 d1]) BK_g5.out 0 (.slice F0 (ws_step M b).length f0) rfl) (by decide) 1 (.slice F1 0 f1)); clear HCF; have HCF := n_; clear n_
          have n_ := Aside0.mk (below_set (j := 1) (v := .slice F1 0 f1) (below_set (j := 0) (v := .slice F0 (ws_step M b).length f0) HB.out GE_g5.out) GE_g5.out); clear HB; have HB := n_; clear n_
          have n_ := Aside0.mk (blk_put (cs' := #[.slice F0 (ws_step M b).length f0, .slice F1 0 f1]) (blk_put (cs' := #[.slice F0 (ws_step M b).length f0, .slice D1 0 d1]) BK_g5.out 0 (.slice F0 (ws_step M b).length f0) rfl) 1 (.slice F1 0 f1) rfl); clear BK_g5; have BK_g5 := n_; clear n_
          clear hs0 hs1 hf0 hf1
          generalize (w42.setCell ⟨g5, 0, none⟩ (.slice F0 (ws_step M b).length f0)).setCell ⟨g5, 1, none⟩ (.slice F1 0 f1) = w43 at BK_g4 BK_g5 BK_g7 BK_g9 HCL HCM HCA HCE HCF HB ⊢
          try go_wp2
          go_roundg (n - (kk + 1))
          case measure => omega
          case rel => exact ⟨kk + 1, E0, e0, E1, e1, F0, f0, F1, f1, by go_num, by omega, by omega, ⟨by rw [HSH.out]; exact BK_g4.out⟩, ⟨by rw [HSM.out]; exact BK_g5.out⟩, ⟨by rw [HSH.out]; exact ⟨HCE.out, HEE.out⟩⟩, ⟨by rw [HSM.out]; exact ⟨HCF.out, HFF.out⟩⟩, HCA, HB⟩
    · have hltz : decide ((kk : Int) < (n : Int)) = false := decide_eq_false (by omega)
      have : kk = n := by omega
      subst this
      have htk : asks.take kk = asks := List.take_of_length_le (by rw [HN.out]; exact Nat.le_refl _)
      have htr : asks.reverse.take kk = asks.reverse := List.take_of_length_le (by rw [List.length_reverse, HN.out]; exact Nat.le_refl _)
      have hlen_ : (ws_once (asks.take kk)).length = (ws_once (asks.reverse.take kk)).length := by rw [htk, htr]; exact ws_once_rev HF.out
      generalize ws_once (asks.take kk) = H at BK_g4 HCL HBL HGH HLH hlen_
      generalize ws_once (asks.reverse.take kk) = M at BK_g5 HCM HBM HGM HLM hlen_
      have hq1 : ((H.length : Int) != (M.length : Int)) = false := by rw [hlen_]; simp
      have hq2 : ((H.length : Int) == (M.length : Int)) = true := by rw [hlen_]; simp
      have hc4_0 : wr.cell? ⟨g4, 0, none⟩ = some (.slice B0 H.length b0) := (blk_cell BK_g4.out 0).trans rfl
      have hc5_0 : wr.cell? ⟨g5, 0, none⟩ = some (.slice D0 M.length d0) := (blk_cell BK_g5.out 0).trans rfl
      clear htk htr hrf hlen_
      go_wp2
      clear hc4_0 hc5_0 hq1 hq2
      go_loopg [11] 4 (fun gg s11 wr => ∃ (j : Nat) (X : List LA) (E0 : Option Addr) (e0 : Nat) (E1 : Option Addr) (e1 : Nat), s11 = .int .i64 j ∧ j ≤ 4 ∧ 4 - j ≤ gg ∧ Aside0 (wr.heap[g4]? = some (.cells #[.slice E0 X.length e0, .slice E1 0 e1] 53 (0, 0))) ∧ Aside0 (wr.heap[g5]? = some (.cells #[.slice D0 M.length d0, .slice D1 0 d1] 53 (0, 0))) ∧ Aside0 (ws_C wr E0 X) ∧ Aside0 (X.length ≤ e0 ∧ X.length ≤ 1000) ∧ Aside0 (ws_good X ∧ ∀ x ∈ X, (j : Int) ≤ x.f0) ∧ Aside0 (ws_C wr D0 M) ∧ Aside0 (Below w.heap.size w wr))
      case atStart => exact ⟨0, H, B0, b0, B1, b1, rfl, by omega, by omega, BK_g4, BK_g5, HCL, ⟨HBL.out, HLH.out⟩, ⟨HGH.out, fun x hx => ws_low HGH.out x hx⟩, HCM, HB⟩
      case round =>
        clear BK_g4 BK_g5 HCL HBL HGH HLH HCM HB HCA
        obtain ⟨j, X, E0, e0, E1, e1, rfl, hj4, hgj, BK_g4, BK_g5, HCX, HLX, HGX, HCM, HB⟩ := hrel
        have hc4_0 : wr.cell? ⟨g4, 0, none⟩ = some (.slice E0 X.length e0) := (blk_cell BK_g4.out 0).trans rfl
        have hc4_1 : wr.cell? ⟨g4, 1, none⟩ = some (.slice E1 0 e1) := (blk_cell BK_g4.out 1).trans rfl
        by_cases hjn : j < 4
        · have hjz : decide ((j : Int) < 4) = true := decide_eq_true (by omega)
          have HJ : Aside0 (0 ≤ (j : Int) ∧ (j : Int) ≤ 3) := ⟨by omega⟩
          go_wp2_with (go_at_call 31; (with_reducible refine (ws_lockfree E0 e0 X E1 e1 (j : Int) _ HCX.out.C HLX.out.1 HLX.out.2 (ws_good_all HGX.out.1) HJ.out).mono ?_); rintro e w3 ⟨F0, f0, F1, f1, rfl, ho_, hoc_, hb_⟩; have n_ := Aside0.mk (blk_below BK_g4.out hb_); clear BK_g4; have BK_g4 := n_; clear n_; have n_ := Aside0.mk (blk_below BK_g5.out hb_); clear BK_g5; have BK_g5 := n_; clear n_; have n_ := Aside0.mk (HCM.out.below hb_); clear HCM; have HCM := n_; clear n_; have n_ := Aside0.mk (below_step HB.out hb_); clear HB; have HB := n_; clear n_; have HCY := Aside0.mk ho_; have HLY := Aside0.mk hoc_; clear ho_ hoc_ hb_ hc4_0 hc4_1; have hc4_0 : w3.cell? ⟨g4, 0, none⟩ = some (.slice E0 X.length e0) := (blk_cell BK_g4.out 0).trans rfl; have hc4_1 : w3.cell? ⟨g4, 1, none⟩ = some (.slice E1 0 e1) := (blk_cell BK_g4.out 1).trans rfl; have hf0 := blk_frozen BK_g4.out 0; have hf1 := blk_frozen BK_g4.out 1)
          go_roundg (4 - (j + 1))
          case measure => omega
          case rel =>
            refine ⟨j + 1, ws_rest (j : Int) X, F0, f0, F1, f1, by go_num, by omega, by omega, ⟨blk_put (blk_put BK_g4.out 0 (.slice F0 (ws_rest (j : Int) X).length f0) rfl) 1 (.slice F1 0 f1) rfl⟩, ⟨blk_far (blk_far BK_g5.out (p := ⟨g4, 0, none⟩) NE_g5_g4.out _) (p := ⟨g4, 1, none⟩) NE_g5_g4.out _⟩, ⟨(HCY.out.set BK_g4.out (by decide) 0 _).set (blk_put BK_g4.out 0 _ rfl) (by decide) 1 _⟩, ⟨HLY.out, Nat.le_trans (List.length_filter_le _ _) HLX.out.2⟩, ⟨ws_good_rest HGX.out.1 _, ?_⟩, ⟨(HCM.out.set BK_g4.out (by decide) 0 _).set (blk_put BK_g4.out 0 _ rfl) (by decide) 1 _⟩, ⟨below_set (below_set HB.out GE_g4.out) GE_g4.out⟩⟩
            have h_ := ws_rest_from HGX.out.2
            rw [show ((j + 1 : Nat) : Int) = (j : Int) + 1 by omega]
            exact h_
        · have hjz : decide ((j : Int) < 4) = false := decide_eq_false (by omega)
          have : j = 4 := by omega
          subst this
          have hX : X = [] := ws_empty HGX.out.1 HGX.out.2
          subst hX
          have hc4_0' : wr.cell? ⟨g4, 0, none⟩ = some (.slice E0 0 e0) := hc4_0
          clear hc4_0
          have hc5_0 : wr.cell? ⟨g5, 0, none⟩ = some (.slice D0 M.length d0) := (blk_cell BK_g5.out 0).trans rfl
          have hc5_1 : wr.cell? ⟨g5, 1, none⟩ = some (.slice D1 0 d1) := (blk_cell BK_g5.out 1).trans rfl
          have HLO : Aside0 (impl_LocksOk.f M [] = some true) := ⟨congrArg some (ws_good_all HGM.out)⟩
          have HAL : Aside0 (laws_alive.f = some true) := ⟨by decide +kernel⟩
          go_wp2_with (first | (go_at_call 27; refine calls_of_args (args' := #[.agg #[.slice D0 M.length d0, .slice D1 ([] : List LA).length d1]]) (by rfl) ?_; (with_reducible refine (impl_LocksOk.calls D0 d0 M D1 d1 [] true _ HCM.out.C HBM.out (ws_nilC _ _) (Nat.zero_le _) HLO.out).mono ?_); rintro e w3 ⟨rfl, hb_⟩; have n_ := Aside0.mk (below_step HB.out hb_); clear HB; have HB := n_; clear n_ hb_) | (go_at_call 23; (with_reducible refine (laws_alive.calls true _ HAL.out).mono ?_); rintro e w4 ⟨rfl, hb_⟩; have n_ := Aside0.mk (below_step HB.out hb_); clear HB; have HB := n_; clear n_ hb_))
          go_ret
          exact ⟨rfl, HB.out⟩
set_option maxHeartbeats 8000000 in
set_option maxRecDepth 100000 in
theorem ws_long (A0 : Option Addr) (c0 : Nat) (l0 : List Int) (w : World) (hlong : (l0.length : Int) > 1048576) :
    Calls Try.prog 7 #[.slice A0 l0.length c0] w fun e w' => e = .returned (.bool true) ∧ Below w.heap.size w w' := by
  have hq : decide ((1048576 : Int) < (l0.length : Int)) = true := decide_eq_true hlong
  have HB := Aside0.mk (Below.refl w.heap.size w)
  go_enter Try.func7, Try.ntmps7
  go_wp2
  go_ret
  exact ⟨rfl, HB.out⟩
def laws_FnWholeShares.f (k : Nat) (l0 : List Int) : Option Bool := if (l0.length : Int) > 1048576 then some true else (spec_DrawAsks.f k l0).bind fun t => if t.length ≤ 100 ∧ (t.all fun a => lk_ok a && (a.f2 == 1)) = true then some true else none
theorem laws_FnWholeShares.calls (k : Nat) (A0 : Option Addr) (c0 : Nat) (l0 : List Int) (r : Bool) (w : World) (hr0 : Kd.C (Kd.int .u8) w A0 l0.length l0) (hc0 : l0.length ≤ c0) (h : laws_FnWholeShares.f k l0 = some r) :
    Calls Try.prog 7 #[.slice A0 l0.length c0] w fun e w' => e = .returned (.bool r) ∧ Below w.heap.size w w' := by
  unfold laws_FnWholeShares.f at h
  by_cases c : (l0.length : Int) > 1048576
  · rw [if_pos c] at h
    obtain rfl := Option.some.inj h
    exact ws_long A0 c0 l0 w c
  · rw [if_neg c] at h
    obtain ⟨t, ht, h⟩ := Option.bind_eq_some_iff.1 h
    by_cases c2 : t.length ≤ 100 ∧ (t.all fun a => lk_ok a && (a.f2 == 1)) = true
    · rw [if_pos c2] at h
      obtain rfl := Option.some.inj h
      refine ws_law k A0 c0 l0 t w hr0 hc0 c ht (fun a ha => ?_) c2.1
      have h_ := List.all_eq_true.1 c2.2 a ha
      rw [Bool.and_eq_true, beq_iff_eq] at h_
      exact h_
    · rw [if_neg c2] at h
      cases h

/-- THE ONE PURE STATEMENT of laws_FnWholeShares. -/
def laws_FnWholeShares.Pure : Prop := ∀ (l0 : List Int), ((l0.length ≤ maxLen ∧ ∀ y2_ ∈ l0, (Lit.int .u8 y2_).wf = true)) → ∃ k, laws_FnWholeShares.f k l0 = some true
end

end Go.Proofs.Ytalhkihppcjanaa.X
