/- Plain functions for the Go functions of this seat, and proofs that each call answers as its plain function does; made by this session's program over the kit's printer. -/
import Derived.Test.YtalhkihppcjanaaX0
import Derived.Test.YtalhkihppcjanaaZFnWholeShares2
namespace Go.Proofs.Ytalhkihppcjanaa.X
open Go.RowKit Go.Proofs.YtalhkihppcjanaaV.PrintWords Go.Proofs.YtalhkihppcjanaaV.PrintLast Go.Proofs.YtalhkihppcjanaaV.PrintMore
attribute [local go_sem] max2_int min2_int max_two min_two max_three min_three max_four min_four   -- for this text's walks alone
set_option linter.unusedVariables false
set_option linter.unusedSimpArgs false

section
/-! ### impl_Ask_107: function 107 -/
def ws_rest (who : Int) (l : List LA) : List LA := l.filter (fun x => !(x.f0 == who))
theorem ws_idx (p : LA → Bool) (l : List LA) : (∃ i, ∃ (h : i < l.length), idxFrom p l 0 = (i : Int) ∧ p l[i] = true ∧ ∀ j (hj : j < i) (hl : j < l.length), p l[j] = false) ∨ (idxFrom p l 0 = -1 ∧ ∀ x ∈ l, p x = false) := by
  by_cases h : l.findIdx p < l.length
  · have h1 : p l[l.findIdx p] = true := List.findIdx_getElem
    have h2 : ∀ j (hj : j < l.findIdx p) (hl : j < l.length), p l[j] = false := fun j hj hl => by
      have := List.not_of_lt_findIdx hj
      simpa using this
    exact Or.inl ⟨l.findIdx p, h, by rw [idx_hit p l (l.findIdx p) 0 h h1 (fun j hj => h2 j hj _)]; omega, h1, h2⟩
  · have h1 : l.findIdx p = l.length := by have := @List.findIdx_le_length _ p l; omega
    have h2 := List.findIdx_eq_length.1 h1
    exact Or.inr ⟨idx_miss p l 0 (fun j hj => h2 _ (List.getElem_mem hj)), h2⟩
theorem ws_rest_self {who : Int} {l : List LA} (h : ∀ x ∈ l, (x.f0 == who) = false) : ws_rest who l = l := List.filter_eq_self.2 (fun x hx => by rw [h x hx]; rfl)
def ws_inv (who : Int) (l : List LA) (ii kk : Nat) (L : List LA) : Prop := L.length = l.length ∧ L.take ii = ws_rest who (l.take kk) ∧ L.drop kk = l.drop kk
theorem ws_take_succ {l : List LA} {k : Nat} (h : k < l.length) (who : Int) : ws_rest who (l.take (k + 1)) = ws_rest who (l.take k) ++ (if (l[k].f0 == who) = true then [] else [l[k]]) := by
  unfold ws_rest
  rw [List.take_succ_eq_append_getElem h, List.filter_append]
  congr 1
  by_cases e : (l[k].f0 == who) = true
  · rw [if_pos e, List.filter_cons_of_neg (by rw [e]; decide), List.filter_nil]
  · rw [if_neg e, List.filter_cons_of_pos (by simpa using e), List.filter_nil]
theorem ws_inv_start {who : Int} {l : List LA} {i : Nat} (h : i < l.length) (hp : (l[i].f0 == who) = true) (hb : ∀ j (hj : j < i) (hl : j < l.length), (l[j].f0 == who) = false) : ws_inv who l i (i + 1) l := by
  refine ⟨rfl, ?_, rfl⟩
  rw [ws_take_succ h, if_pos hp, List.append_nil, ws_rest_self]
  intro x hx
  obtain ⟨j, hj, rfl⟩ := List.mem_iff_getElem.1 hx
  rw [List.length_take] at hj
  rw [List.getElem_take]
  exact hb j (by omega) (by omega)
theorem ws_inv_at {who : Int} {l L : List LA} {ii kk : Nat} (h : ws_inv who l ii kk L) (hk : kk < l.length) (hK : kk < L.length) : L[kk] = l[kk] := by
  have e : (L.drop kk)[0]? = (l.drop kk)[0]? := by rw [h.2.2]
  rw [List.getElem?_drop, List.getElem?_drop, Nat.add_zero, List.getElem?_eq_getElem hK, List.getElem?_eq_getElem hk] at e
  exact Option.some.inj e
theorem ws_drop_succ {l L : List LA} {kk : Nat} (h : L.drop kk = l.drop kk) : L.drop (kk + 1) = l.drop (kk + 1) := by
  rw [show kk + 1 = 1 + kk by omega] 
  rw [Nat.add_comm 1 kk, ← List.drop_drop, ← List.drop_drop, h]
theorem ws_inv_skip {who : Int} {l L : List LA} {ii kk : Nat} (h : ws_inv who l ii kk L) (hk : kk < l.length) (hK : kk < L.length) (hp : (L[kk].f0 == who) = true) : ws_inv who l ii (kk + 1) L := by
  refine ⟨h.1, ?_, ws_drop_succ h.2.2⟩
  rw [ws_inv_at h hk hK] at hp
  rw [ws_take_succ hk, if_pos hp, List.append_nil]
  exact h.2.1
theorem ws_inv_keep {who : Int} {l L : List LA} {ii kk : Nat} (h : ws_inv who l ii kk L) (hi : ii < kk) (hk : kk < l.length) (hK : kk < L.length) (hp : (L[kk].f0 == who) = false) : ws_inv who l (ii + 1) (kk + 1) (L.set ii L[kk]) := by
  have hat := ws_inv_at h hk hK
  rw [hat] at hp ⊢
  refine ⟨by rw [List.length_set]; exact h.1, ?_, ?_⟩
  · rw [ws_take_succ hk, if_neg (by rw [hp]; decide), ← h.2.1]
    rw [List.take_succ_eq_append_getElem (by rw [List.length_set]; omega), List.getElem_set_self, List.take_set_of_le (Nat.le_refl _)]
  · rw [List.drop_set_of_lt (by omega)]
    exact ws_drop_succ h.2.2
theorem ws_inv_end {who : Int} {l L : List LA} {ii : Nat} (h : ws_inv who l ii l.length L) (hi : ii ≤ l.length) : L.take ii = ws_rest who l ∧ (ws_rest who l).length = ii := by
  have e := h.2.1
  rw [List.take_length] at e
  exact ⟨e, by rw [← e, List.length_take, h.1]; omega⟩
theorem ws_zsize (k : Nat) : (Builtin.zeroCells #[Value.int IntKind.i64 0, Value.int IntKind.i64 0, Value.int IntKind.i64 0] k).toList.length = 3 * k := by
  simp [Builtin.zeroCells]
  try omega
theorem ws_zone (k : Nat) : ∀ v ∈ (Builtin.zeroCells #[Value.int IntKind.i64 0, Value.int IntKind.i64 0, Value.int IntKind.i64 0] k).toList, v.oneCell' = true := by
  intro b hb
  simp only [Builtin.zeroCells, Array.toList_map, List.mem_map] at hb
  obtain ⟨a, _, rfl⟩ := hb
  have : a % 3 = 0 ∨ a % 3 = 1 ∨ a % 3 = 2 := by omega
  rcases this with h | h | h <;> simp [h, Value.oneCell']
theorem ws_clear (b o k c : Nat) (W : World) (hth : W.there b o (3 * (k + 1))) :
    (Builtin.clear_ #[51] 0 #[.slice (some ⟨b, o, none⟩) (k + 1) c]).run Try.prog W = .ok (.tuple #[]) (W.setCells b o (Builtin.zeroCells #[(.int .i64 0), (.int .i64 0), (.int .i64 0)] (k + 1)).toList) := by
  have h1 := run_storeCells_cells (P := Try.prog) b o (Builtin.zeroCells #[(.int .i64 0), (.int .i64 0), (.int .i64 0)] (k + 1)).toList 0 W (fun j hj => by simpa using (hth j (by rw [ws_zsize] at hj; exact hj)).1) (fun j hj => by simpa using (hth j (by rw [ws_zsize] at hj; exact hj)).2) (ws_zone _)
  rw [Nat.add_zero] at h1
  have hu51 := Try.underlying51
  unfold Builtin.clear_
  simp [go_sem, h1, Result.andThen]
theorem ws_below_cells {w0 : World} {base b : Nat} (hb : base ≤ b) : ∀ (vs : List Value) (o : Nat) (W : World), Below base w0 W → Below base w0 (W.setCells b o vs)
  | [], _, _, h => h
  | v :: r, o, W, h => ws_below_cells hb r (o + 1) _ (h.setCell hb v)
theorem ws_keep2 {w w1 w2 : World} {row : Option Nat} {g : Nat} (h : KeepBut w w1 w.heap.size row) (k : KeepBut w1 w2 g row) (hg : g = w1.heap.size := by rfl) : KeepBut w w2 w.heap.size row := by
  refine ⟨Nat.le_trans h.1 k.1, fun i hi hn hr => (k.2 i (Nat.lt_of_lt_of_le hi h.1) ?_ hr).trans (h.2 i hi hn hr)⟩
  have := h.1
  omega
theorem ws_keep_cells (gb : Nat) : ∀ (vs : List Value) (o : Nat) (W : World), KeepBut W (W.setCells gb o vs) W.heap.size (some gb)
  | [], _, W => KeepBut.refl _ _ _
  | v :: r, o, W => by
    have h1 : KeepBut W (W.setCell ⟨gb, o, none⟩ v) W.heap.size (some gb) := ⟨by simp [World.setCell], fun i _ _ hr => Below.heap_setCell W ⟨gb, o, none⟩ v i (fun he => hr (by rw [he]))⟩
    exact ws_keep2 h1 (ws_keep_cells gb r (o + 1) _)
theorem ws_typed_cells {gb : Nat} : ∀ (vs : List Value) (o : Nat) (W : World) {cur : Array Value}, W.heap[gb]? = some (.cells cur 61 (0, 0)) → ∃ cells, (W.setCells gb o vs).heap[gb]? = some (.cells cells 61 (0, 0))
  | [], _, _, cur, h => ⟨cur, h⟩
  | v :: r, o, W, cur, h => ws_typed_cells r (o + 1) _ (blk_set h o v)
theorem ws_cells_lt {b t : Nat} : ∀ (vs : List Value) (o : Nat) (W : World), t < o → (W.setCells b o vs).cell? ⟨b, t, none⟩ = W.cell? ⟨b, t, none⟩
  | [], _, _, _ => rfl
  | v :: r, o, W, h => (ws_cells_lt r (o + 1) _ (by omega)).trans (World.cell?_setCell_other _ _ _ _ (by intro he; injection he with _ h2 _; omega))
theorem ws_C_take {W : World} {gb ii : Nat} {L : List LA} (h : Kd.C k61 W (some ⟨gb, 0, none⟩) L.length L) (vs : List Value) : Kd.C k61 (W.setCells gb (ii * 3) vs) (some ⟨gb, 0, none⟩) (L.take ii).length (L.take ii) := by
  refine ⟨rfl, ?_, fun hpos => ⟨_, rfl, fun j p hj => ?_⟩⟩
  · have := h.2.1
    rw [List.length_take]
    omega
  · have hjl : j < (L.take ii).length := (List.getElem?_eq_some_iff.1 hj).1
    rw [List.length_take] at hjl
    rw [List.getElem?_take, if_pos (by omega)] at hj
    obtain ⟨ad, hA, hc⟩ := h.2.2 (by omega)
    have hA' : ad = ⟨gb, 0, none⟩ := (Option.some.inj hA).symm
    subst hA'
    obtain ⟨cs, hcl, hK, hcell⟩ := hc j p hj
    obtain ⟨_, _, rfl, rfl, _, _, rfl, rfl, rfl⟩ := hK
    refine ⟨_, rfl, k61_mk _ p, fun t u ht => ?_⟩
    have h_ := hcell t u ht
    have ht3 : t < 3 := (List.getElem?_eq_some_iff.1 ht).1
    rw [Addr.add_lit, Nat.zero_add] at h_ ⊢
    rw [ws_cells_lt _ _ _ (by show j * 3 + t < ii * 3; omega)]
    exact h_
set_option maxHeartbeats 8000000 in
set_option maxRecDepth 100000 in
theorem ws_del (gn : Nat) (who : Int) (l : List LA) (A0 : Option Addr) (c0 : Nat) (w w0 : World) (base : Nat)
    (HO0 : Kd.R k61 61 w base (fun _ => True) (.slice A0 l.length c0) l) (HB0 : Below base w0 w) (hbase : base ≤ w.heap.size) (hgn : w.heap[gn]? = some (.cells #[.int .i64 who] 3 (0, 0))) :
    Calls Try.prog 107 #[.slice A0 l.length c0, .func (.func 106) #[] #[.pointer (some ⟨gn, 0, none⟩)]] w fun e w' => ∃ (A1 : Option Addr) (c1 : Nat), e = .returned (.slice A1 (ws_rest who l).length c1) ∧ ws_C w' A1 (ws_rest who l) ∧ (ws_rest who l).length ≤ c1 ∧ Below base w0 w' ∧ KeepBut w w' w.heap.size (Value.slice A0 l.length c0).ownBlock := by
  have hu51 := Try.underlying51
  have hu61 := Try.underlying61
  have hr0 := (Kd.R_reads' HO0).2.2
  have hnc := (Kd.R_reads' HO0).2.1
  have hbig : l.length ≤ 9223372036854775807 := hr0.2.1
  have HIDX := Aside0.mk (idx100.calls (fun x => x.f0 == who) 106 #[.pointer (some ⟨gn, 0, none⟩)] (enters_own Try.func106 (by kernel_rfl) rfl) A0 c0 l w hr0 (fun W x cs hx hb hK => ws_each_who w W gn who x cs ((blk_cell hgn 0).trans rfl) hb hK))
  have HBB := Aside0.mk HB0
  have HGN := Aside0.mk hgn
  rcases ws_idx (fun x => x.f0 == who) l with ⟨i, hi, hidx, hpi, hlow⟩ | ⟨hidx, hno⟩
  case inr =>
    rw [hidx] at HIDX
    have HRR := Aside0.mk (ws_rest_self hno)
    clear hidx hno hgn HB0
    have HOO := Aside0.mk HO0
    clear HO0 hr0
    go_enter Try.func107, Try.ntmps107
    go_wp2_with (go_at_call 100; (with_reducible refine HIDX.out.mono ?_); rintro e w1 ⟨rfl, hb1⟩)
    go_ret
    rw [HRR.out]
    exact ⟨A0, c0, rfl, (ws_C.of_R HOO.out).below hb1, hnc, HBB.out.trans (hb1.mono hbase), KeepBut.of_below hb1 _ _⟩
  rw [hidx] at HIDX
  have hne : ((i : Int) == -1) = false := beq_eq_false_iff_ne.mpr (by omega)
  have HST := Aside0.mk (ws_inv_start hi hpi hlow)
  obtain ⟨gb, cap_, hv_, hgb_, _, _⟩ := Kd.R_form HO0 (by omega)
  injection hv_ with hA_ _ hc_
  subst hA_
  subst hc_
  have HGB := Aside0.mk hgb_
  have hnb : gn ≠ gb := fun he_ => Kd.R_ne HO0 hgn (by decide) (by rw [he_]; rfl)
  have HNB := Aside0.mk hnb
  have HOO := Aside0.mk HO0
  obtain ⟨n, hn⟩ : ∃ n, l.length = n := ⟨_, rfl⟩
  clear hr0 HO0 HB0 hgn hpi hlow hidx hgb_ hnb
  rw [hn] at hbig hi hnc HIDX HOO ⊢
  have HN := Aside0.mk hn
  clear hn
  go_enter Try.func107, Try.ntmps107
  go_wp2_with (go_at_call 100; (with_reducible refine HIDX.out.mono ?_); rintro e w1 ⟨rfl, hb1⟩)
  have HB1 := Aside0.mk hb1
  clear hb1
  go_loopg [5, 6, 7] n (fun gg s5 s6 s7 wr => ∃ (kk ii : Nat) (L : List LA), s5 = .int .i64 ii ∧ s6 = .int .i64 kk ∧ ii < kk ∧ kk ≤ n ∧ n - kk ≤ gg ∧ Aside0 (ws_inv who l ii kk L) ∧ Aside0 (Kd.R k61 61 wr base (fun _ => True) (.slice (some ⟨gb, 0, none⟩) n c0) L) ∧ Aside0 (Below base w0 wr) ∧ Aside0 (base ≤ wr.heap.size) ∧ Aside0 (wr.heap[gn]? = some (.cells #[.int .i64 who] 3 (0, 0))) ∧ Aside0 (KeepBut w wr w.heap.size (some gb)))
  case atStart => exact ⟨i + 1, i, l, rfl, by go_num, by omega, by omega, by omega, HST, ⟨Kd.R_below HOO.out HB1.out⟩, ⟨HBB.out.trans (HB1.out.mono hbase)⟩, ⟨Nat.le_trans hbase (below_size HB1.out)⟩, ⟨blk_below HGN.out HB1.out⟩, ⟨KeepBut.of_below HB1.out _ _⟩⟩
  case round =>
    obtain ⟨kk, ii, L, rfl, rfl, hik, hkk, hg, HI, HL, BW, BS, HGW, HKB⟩ := hrel
    have hLn : L.length = n := HI.out.1.trans HN.out
    by_cases hkn : kk < n
    · have hltz : decide ((kk : Int) < (n : Int)) = true := decide_eq_true (by omega)
      have hiz : decide ((ii : Int) < (n : Int)) = true := decide_eq_true (by omega)
      obtain ⟨ad, hA, hc⟩ := (Kd.R_reads' HL.out).2.2.2.2 (by omega)
      have hA' : ad = ⟨gb, 0, none⟩ := (Option.some.inj hA).symm
      subst hA'
      have hkl : kk < L.length := by omega
      obtain ⟨x, hx⟩ : ∃ x, L[kk]'hkl = x := ⟨_, rfl⟩
      have hxs := List.getElem?_eq_getElem hkl
      rw [hx] at hxs
      obtain ⟨cs, hcl, hK, hcell⟩ := hc kk x hxs
      obtain ⟨_, _, rfl, rfl, _, _, rfl, rfl, rfl⟩ := hK
      have l2_0 : wr.cell? ⟨gb, kk * 3, none⟩ = some (.int .i64 x.f0) := by
        have h_ := hcell 0 _ rfl
        rw [Addr.add_lit, Nat.zero_add] at h_
        exact h_
      have l2_1 : wr.cell? ⟨gb, kk * 3 + 1, none⟩ = some (.int .i64 x.f1) := by
        have h_ := hcell 1 _ rfl
        rw [Addr.add_lit, Nat.zero_add] at h_
        exact h_
      have l2_2 : wr.cell? ⟨gb, kk * 3 + 2, none⟩ = some (.int .i64 x.f2) := by
        have h_ := hcell 2 _ rfl
        rw [Addr.add_lit, Nat.zero_add] at h_
        exact h_
      have hwho := (blk_cell (blk_alloc HGW.out (.cells #[.int .i64 x.f0, .int .i64 x.f1, .int .i64 x.f2] 61)) 0).trans rfl
      have hcall : Calls Try.prog 106 #[.agg #[.int .i64 x.f0, .int .i64 x.f1, .int .i64 x.f2], .pointer (some ⟨gn, 0, none⟩)] (wr.alloc (.cells #[.int .i64 x.f0, .int .i64 x.f1, .int .i64 x.f2] 61)) fun e w' => e = .returned (.bool (x.f0 == who)) ∧ Below (wr.alloc (.cells #[.int .i64 x.f0, .int .i64 x.f1, .int .i64 x.f2] 61)).heap.size (wr.alloc (.cells #[.int .i64 x.f0, .int .i64 x.f1, .int .i64 x.f2] 61)) w' := ws_each_who _ _ gn who x _ hwho (Below.refl _ _) (k61_mk _ x)
      have hcx0 : (wr.alloc (.cells #[.int .i64 x.f0, .int .i64 x.f1, .int .i64 x.f2] 61)).cell? ⟨wr.heap.size, 0, none⟩ = some (.int .i64 x.f0) := (blk_cell (blk_new _ _) 0).trans rfl
      have hcx1 : (wr.alloc (.cells #[.int .i64 x.f0, .int .i64 x.f1, .int .i64 x.f2] 61)).cell? ⟨wr.heap.size, 1, none⟩ = some (.int .i64 x.f1) := (blk_cell (blk_new _ _) 1).trans rfl
      have hcx2 : (wr.alloc (.cells #[.int .i64 x.f0, .int .i64 x.f1, .int .i64 x.f2] 61)).cell? ⟨wr.heap.size, 2, none⟩ = some (.int .i64 x.f2) := (blk_cell (blk_new _ _) 2).trans rfl
      clear hc hcell hcl hwho hxs
      have HX := Aside0.mk hx
      clear hx
      cases hq : (x.f0 == who) with
      | true =>
        rw [hq] at hcall
        go_wp2_with (go_at_call 106; (with_reducible refine hcall.mono ?_); rintro e w' ⟨rfl, hb'⟩)
        clear hcx0 hcx1 hcx2
        go_roundg (n - (kk + 1))
        case measure => omega
        case rel =>
          have hbx := below_step (below_alloc (Below.refl wr.heap.size wr) (.cells #[.int .i64 x.f0, .int .i64 x.f1, .int .i64 x.f2] 61)) hb'
          exact ⟨kk + 1, ii, L, rfl, by go_num, by omega, by omega, by omega, ⟨ws_inv_skip HI.out (by rw [HN.out]; exact hkn) hkl (by rw [HX.out]; exact hq)⟩, ⟨Kd.R_below HL.out hbx⟩, ⟨BW.out.trans (hbx.mono BS.out)⟩, ⟨Nat.le_trans BS.out (below_size hbx)⟩, ⟨blk_below HGW.out hbx⟩, ⟨ws_keep2 HKB.out (KeepBut.of_below hbx wr.heap.size (some gb))⟩⟩
      | false =>
        rw [hq] at hcall
        have hil : ii < L.length := by omega
        obtain ⟨y, hy⟩ : ∃ y, L[ii]'hil = y := ⟨_, rfl⟩
        have hys := List.getElem?_eq_getElem hil
        rw [hy] at hys
        obtain ⟨ad2, hA2, hc2⟩ := (Kd.R_reads' HL.out).2.2.2.2 (by omega)
        have hA2' : ad2 = ⟨gb, 0, none⟩ := (Option.some.inj hA2).symm
        subst hA2'
        obtain ⟨cs2, hcl2, hK2, hcell2⟩ := hc2 ii y hys
        obtain ⟨_, _, rfl, rfl, _, _, rfl, rfl, rfl⟩ := hK2
        have HY : Aside0 (∀ j u, [Value.int .i64 y.f0, .int .i64 y.f1, .int .i64 y.f2][j]? = some u → wr.cell? ⟨gb, (ii : Int).toNat * k61.sz + j, none⟩ = some u) := ⟨fun j u hj => by
          have h_ := hcell2 j u hj
          rw [Addr.add_lit, Nat.zero_add] at h_
          rw [Int.toNat_natCast]
          exact h_⟩
        clear hc2 hcell2 hcl2 hys hy
        go_wp2_with (first | (go_at_call 106; (with_reducible refine hcall.mono ?_); rintro e w' ⟨rfl, hb'⟩; have hcy0 := pw_cell_below hb' hcx0; have hcy1 := pw_cell_below hb' hcx1; have hcy2 := pw_cell_below hb' hcx2; have HBX := Aside0.mk (below_step (below_alloc (Below.refl wr.heap.size wr) (.cells #[.int .i64 x.f0, .int .i64 x.f1, .int .i64 x.f2] 61)) hb'); clear hcall hcx0 hcx1 hcx2 hb') | ((with_reducible refine gate_ (.store 61 (.tmp 33) (.tmp 32)) rfl ?_); refine Kd.R_store k61 (w0 := w0) base rfl rfl 61 (.tmp 33) (.tmp 32) rfl 61 (ii : Int) 0 L x (.agg #[.int .i64 x.f0, .int .i64 x.f1, .int .i64 x.f2]) [.int .i64 x.f0, .int .i64 x.f1, .int .i64 x.f2] [.int .i64 y.f0, .int .i64 y.f1, .int .i64 y.f2] (fun _ => True) (fun _ => False) rfl (by rw [Int.toNat_natCast]; rfl) rfl rfl (by kernel_rfl) (by intro q hq_; simp only [List.mem_cons, List.not_mem_nil, or_false] at hq_; rcases hq_ with rfl | rfl | rfl <;> rfl) (Kd.R_below HL.out HBX.out) (by omega) (by omega) rfl (fun j u hj => pw_cell_below HBX.out (HY.out j u hj)) (by show 3 ≤ 3; decide) (k61_mkM _ _ _ x) (fun _ hf_ => hf_.elim) (BW.out.trans (HBX.out.mono BS.out)) ?_; intro w3 hr3 hb3 hg3; rw [Int.toNat_natCast] at hr3; have HR3 := Aside0.mk hr3; have HB3 := Aside0.mk hb3; have HG3 := Aside0.mk hg3; clear hr3 hb3 hg3))
        go_roundg (n - (kk + 1))
        case measure => omega
        case rel =>
          refine ⟨kk + 1, ii + 1, L.set ii x, by go_num, by go_num, by omega, by omega, by omega, ⟨?_⟩, HR3, HB3, ⟨Nat.le_trans BS.out (Nat.le_trans (below_size HBX.out) HG3.out.size)⟩, ⟨blk_grown (blk_below HGW.out HBX.out) HG3.out (fun he_ => HNB.out (Option.some.inj he_))⟩, ⟨ws_keep2 HKB.out (ws_keep2 (KeepBut.of_below HBX.out wr.heap.size (some gb)) (KeepBut.of_grown HG3.out _))⟩⟩
          have h_ := ws_inv_keep HI.out hik (by rw [HN.out]; exact hkn) hkl (by rw [HX.out]; exact hq)
          rw [HX.out] at h_
          exact h_
    · have hltz : decide ((kk : Int) < (n : Int)) = false := decide_eq_false (by omega)
      have : kk = n := by omega
      subst this
      have hin : ii ≤ l.length := by have := HN.out; omega
      have hEND := ws_inv_end (by rw [HN.out]; exact HI.out) hin
      obtain ⟨_, inner, ⟨_, hown⟩, _⟩ := HL.out
      rcases hown with ⟨_, h0⟩ | ⟨gb2, cap, cur, hv, hgb, hheap, hncap, hcm, hcs, htk⟩
      · omega
      · injection hv with hA h2 h3
        have hgg : gb = gb2 := by injection hA with hA; injection hA
        subst hgg
        subst h3
        have hsz : c0 * 3 ≤ cur.size := hcs
        have hcap1 : decide ((0 : Int) ≤ (ii : Int)) = true := decide_eq_true (by omega)
        have hcap2 : decide ((ii : Int) ≤ (kk : Int)) = true := decide_eq_true (by omega)
        have hcap3 : decide ((kk : Int) ≤ (c0 : Int)) = true := decide_eq_true (by omega)
        have hcap4 : decide ((ii : Int) ≤ (c0 : Int)) = true := decide_eq_true (by omega)
        have hth : wr.there gb (ii * 3) (3 * ((kk - ii - 1) + 1)) := by
          intro j hj
          refine ⟨?_, blk_frozen hheap (ii * 3 + j)⟩
          rw [blk_cell hheap (ii * 3 + j), Array.getElem?_eq_getElem (by omega)]
          rfl
        obtain ⟨W2, hW2⟩ : ∃ W2, W2 = wr.setCells gb (ii * 3) (Builtin.zeroCells #[(.int .i64 0), (.int .i64 0), (.int .i64 0)] ((kk - ii - 1) + 1)).toList := ⟨_, rfl⟩
        have hclr : (Builtin.clear_ #[51] 0 #[.slice (some ⟨gb, ii * 3, none⟩) (kk - ii) (c0 - ii)]).run Try.prog wr = .ok (.tuple #[]) W2 := by
          rw [hW2, show kk - ii = (kk - ii - 1) + 1 by omega]
          exact ws_clear gb (ii * 3) (kk - ii - 1) _ wr hth
        have HB2 : Aside0 (Below base w0 W2) := ⟨by
          rw [hW2]
          exact ws_below_cells HGB.out _ _ _ BW.out⟩
        have HK2 : Aside0 (KeepBut w W2 w.heap.size (some gb)) := ⟨by
          rw [hW2]
          exact ws_keep2 HKB.out (ws_keep_cells _ _ _ _)⟩
        have HC2 : Aside0 (ws_C W2 (some ⟨gb, 0, none⟩) (L.take ii)) := ⟨by
          rw [hW2]
          refine ⟨ws_C_take (Kd.R_reads' HL.out).2.2 _, fun ad hA _ => ?_⟩
          have hA' := Option.some.inj hA
          subst hA'
          exact ws_typed_cells _ _ _ hheap⟩
        clear hW2 hth hheap
        rw [hEND.1] at HC2
        have HEND := Aside0.mk hEND
        clear hEND htk hLn hin hcm hcs hgb
        try clear h2
        try clear hA
        go_wp2
        go_ret
        rw [HEND.out.2]
        exact ⟨_, _, rfl, HC2.out, by omega, HB2.out, HK2.out⟩
end

section
/-! ### impl_Ask_108: function 108 -/
set_option maxRecDepth 100000 in
theorem ws.eql_none (n c : Nat) (w : World) : (binOp BinOp.eql 51 (Value.slice none n c) (Value.slice none 0 0)).run Try.prog w = .ok (.bool true) w := by
  first | rfl | kernel_rfl | (simp [go_sem, binOp, Try.underlying51]; done)
set_option maxRecDepth 100000 in
theorem ws.eql_some (a : Addr) (n c : Nat) (w : World) : (binOp BinOp.eql 51 (Value.slice (some a) n c) (Value.slice none 0 0)).run Try.prog w = .ok (.bool false) w := by
  first | rfl | kernel_rfl | (simp [go_sem, binOp, Try.underlying51]; done)
attribute [local go_sem] ws.eql_none ws.eql_some
set_option maxHeartbeats 8000000 in
set_option maxRecDepth 100000 in
theorem ws_clone (A0 : Option Addr) (c0 : Nat) (l0 : List LA) (w : World) (hr0 : Kd.C k61 w A0 l0.length l0) (hc0 : l0.length ≤ c0) (hl : l0.length ≤ 1000) :
    Calls Try.prog 108 #[.slice A0 l0.length c0] w fun e w' => ∃ (A1 : Option Addr) (c1 : Nat), e = .returned (.slice A1 l0.length c1) ∧ Kd.R k61 61 w' w.heap.size (fun _ => True) (.slice A1 l0.length c1) l0 ∧ Below w.heap.size w w' := by
  have hu51 := Try.underlying51
  have hu61 := Try.underlying61
  have HR0 := Aside0.mk hr0
  have HB := Aside0.mk (Below.refl w.heap.size w)
  cases A0 with
  | none =>
    have hnil : l0 = [] := by
      by_cases h : 0 < l0.length
      · obtain ⟨ad, hA, _⟩ := hr0.2.2 h
        cases hA
      · exact List.length_eq_zero_iff.1 (by omega)
    clear hr0
    subst hnil
    go_enter Try.func108, Try.ntmps108
    go_wp2
    go_ret
    exact ⟨_, _, rfl, Kd.R_nil _ _ _ _ _, HB.out⟩
  | some a =>
    clear hr0
    go_enter Try.func108, Try.ntmps108
    go_wp2_with (first | ((with_reducible refine gate_dst (N := 5) rfl ?_); refine Kd.R_lit k61 _ 61 ?hg (N := 5) ?hd (xs := ([] : List LA)) (inner := []) (ok := fun _ => True) (okp := fun _ => True) ?hr ?hp (fun _ hk => hk) trivial (Below.refl _ _) (Nat.le_refl _) (by simp) ?_; (case hd => rfl); (case hg => rfl); (case hr => first | (go_simp; done) | (go_simp; rfl)); (case hp => exact (Reps.none _ _)); intro v5 w5 ho5 hb hg_ hnew_; clear hg_ hnew_; have HO5 := Aside0.mk ho5; have HR5 := Aside0.mk (Kd.C_below HR0.out hb); have HB5 := Aside0.mk hb; clear ho5 hb) | ((with_reducible refine gate_builtin (b := .append) rfl ?_); at_builtin; refine Kd.R_append_rows k61 (w0 := w) w.heap.size rfl (.tmp 5) (.tmp 6) 51 61 (.agg #[(.int .i64 0), (.int .i64 0), (.int .i64 0)]) 24 rfl Try.underlying51 info61 rfl (by decide) (by omega) v5 [] l0 _ _ _ (fun _ => True) (fun _ => False) rfl rfl HO5.out HR5.out (fun _ _ h => h) (fun _ h => h.elim) (fun _ _ => trivial) HB5.out (below_size HB5.out) (by simp only [List.length_nil]; omega) ?_; intro v1 w1 ho hb hg hat; rw [List.nil_append] at ho; obtain ⟨A1, c1, e1_⟩ := Kd.R_slice ho; subst e1_; have HO := Aside0.mk ho; have HB1 := Aside0.mk hb; clear ho hb hg hat))
    go_ret
    exact ⟨A1, c1, rfl, HO.out, HB1.out⟩

-- NOT PRINTED: function 109 (impl_Ask_109)
end

section
/-! ### impl_Locks_release: function 77 -/
def ws_r2_T : Bool × List (List Nat × List Nat) := (true, [([], []), ([0], [0]), ([1], [1]), ([], []), ([2, 3, 2], [2, 3]), ([], []), ([5], [5]), ([6, 4], [6]), ([], []), ([7, 8, 7], [7, 8]), ([4, 9], [4, 9]), ([], []), ([11, 10, 9, 0, 1, 2, 3, 4, 5, 6, 7, 8, 9, 10, 11], [10, 11])])
def ws_r2_B : List Nat := [0, 1, 3, 0, 15, 0, 32, 127, 0, 511, 1023, 0, 4095]
theorem ws_r2_tab : rtab .any (opsOf Try.f77 2) = ws_r2_T := by kernel_rfl
theorem ws_r2_bits : waitsOk ws_r2_T.2 ws_r2_B = true := by kernel_rfl
set_option maxHeartbeats 8000000 in
set_option maxRecDepth 100000 in
theorem ws_release (A0 : Option Addr) (c0 : Nat) (h : List LA) (A1 : Option Addr) (c1 : Nat) (who : Int) (w : World) (hr0 : Kd.C k61 w A0 h.length h) (hc0 : h.length ≤ c0) (hlen : h.length ≤ 1000) :
    Calls Try.prog 77 #[.agg #[.slice A0 h.length c0, .slice A1 0 c1], .int .i64 who] w fun e w' => ∃ (B0 : Option Addr) (b0 : Nat) (B1 : Option Addr) (b1 : Nat), e = .returned (.agg #[.slice B0 (ws_rest who h).length b0, .slice B1 0 b1]) ∧ ws_C w' B0 (ws_rest who h) ∧ (ws_rest who h).length ≤ b0 ∧ Below w.heap.size w w' := by
  have hu61 := Try.underlying61
  have hu53 := Try.underlying53
  have hu51 := Try.underlying51
  have HR := Aside0.mk hr0
  have HC := Aside0.mk hc0
  have HLE := Aside0.mk hlen
  have HCP := Aside0.mk (ws_copy (ws_rest who h) (Nat.le_trans (List.length_filter_le _ _) hlen))
  have HLR : Aside0 ((ws_rest who h).length ≤ 1000) := ⟨Nat.le_trans (List.length_filter_le _ _) hlen⟩
  have HB := Aside0.mk (Below.refl w.heap.size w)
  have ST0 := True.intro
  clear hr0 hc0 hlen
  go_enter Try.func77, Try.ntmps77
  go_wp2_with (first | (have hck_ := ST2; clear hck_; (with_reducible refine gate_dst (N := 4) rfl ?_); refine box_event ?hg (N := 4) ?hd (cs := #[.slice none 0 0, .slice none 0 0]) (t := 53) ?hr ?_; (case hd => rfl); (case hg => rfl); (case hr => first | (go_simp; done) | (go_simp; rfl)); intro gr hg_ w3 hbox_ hb_; have GE_gr : Aside0 (w.heap.size ≤ gr) := ⟨by rw [hg_]; exact below_size HB.out⟩; have NE_gl_gr : Aside0 (gl ≠ gr) := ⟨by rw [hg_]; exact Nat.ne_of_lt (blk_lt BK_gl.out)⟩; have NE_gr_gl : Aside0 (gr ≠ gl) := ⟨by rw [hg_]; exact Nat.ne_of_gt (blk_lt BK_gl.out)⟩; have NE_gn_gr : Aside0 (gn ≠ gr) := ⟨by rw [hg_]; exact Nat.ne_of_lt (blk_lt BK_gn.out)⟩; have NE_gr_gn : Aside0 (gr ≠ gn) := ⟨by rw [hg_]; exact Nat.ne_of_gt (blk_lt BK_gn.out)⟩; clear hc_gl_0 hc_gl_1 hc_gn_0; have n_ := Aside0.mk (blk_below BK_gl.out hb_); clear BK_gl; have BK_gl : Aside0 (w3.heap[gl]? = some (.cells #[.slice A0 h.length c0, .slice A1 0 c1] 53 (0, 0))) := n_; clear n_; have n_ := Aside0.mk (blk_below BK_gn.out hb_); clear BK_gn; have BK_gn : Aside0 (w3.heap[gn]? = some (.cells #[.int .i64 who] 3 (0, 0))) := n_; clear n_; have n_ := Aside0.mk (below_step HB.out hb_); clear HB; have HB := n_; clear n_; have BK_gr := Aside0.mk hbox_; have hc_gl_0 : w3.cell? ⟨gl, 0, none⟩ = some (.slice A0 h.length c0) := (blk_cell BK_gl.out 0).trans rfl; have hc_gl_1 : w3.cell? ⟨gl, 1, none⟩ = some (.slice A1 0 c1) := (blk_cell BK_gl.out 1).trans rfl; have hc_gn_0 : w3.cell? ⟨gn, 0, none⟩ = some (.int .i64 who) := (blk_cell BK_gn.out 0).trans rfl; have hc_gr_0 : w3.cell? ⟨gr, 0, none⟩ = some (.slice none 0 0) := (blk_cell BK_gr.out 0).trans rfl; have hc_gr_1 : w3.cell? ⟨gr, 1, none⟩ = some (.slice none 0 0) := (blk_cell BK_gr.out 1).trans rfl; clear hg_ hbox_ hb_; have ST3 := True.intro) | (have hck_ := ST1; clear hck_; (with_reducible refine gate_dst (N := 3) rfl ?_); refine box_event ?hg (N := 3) ?hd (cs := #[.int .i64 who]) (t := 3) ?hr ?_; (case hd => rfl); (case hg => rfl); (case hr => first | (go_simp; done) | (go_simp; rfl)); intro gn hg_ w2 hbox_ hb_; have GE_gn : Aside0 (w.heap.size ≤ gn) := ⟨by rw [hg_]; exact below_size HB.out⟩; have NE_gl_gn : Aside0 (gl ≠ gn) := ⟨by rw [hg_]; exact Nat.ne_of_lt (blk_lt BK_gl.out)⟩; have NE_gn_gl : Aside0 (gn ≠ gl) := ⟨by rw [hg_]; exact Nat.ne_of_gt (blk_lt BK_gl.out)⟩; clear hc_gl_0 hc_gl_1; have n_ := Aside0.mk (blk_below BK_gl.out hb_); clear BK_gl; have BK_gl : Aside0 (w2.heap[gl]? = some (.cells #[.slice A0 h.length c0, .slice A1 0 c1] 53 (0, 0))) := n_; clear n_; have n_ := Aside0.mk (below_step HB.out hb_); clear HB; have HB := n_; clear n_; have BK_gn := Aside0.mk hbox_; have hc_gl_0 : w2.cell? ⟨gl, 0, none⟩ = some (.slice A0 h.length c0) := (blk_cell BK_gl.out 0).trans rfl; have hc_gl_1 : w2.cell? ⟨gl, 1, none⟩ = some (.slice A1 0 c1) := (blk_cell BK_gl.out 1).trans rfl; have hc_gn_0 : w2.cell? ⟨gn, 0, none⟩ = some (.int .i64 who) := (blk_cell BK_gn.out 0).trans rfl; clear hg_ hbox_ hb_; have ST2 := True.intro) | (have hck_ := ST0; clear hck_; (with_reducible refine gate_dst (N := 2) rfl ?_); refine box_event ?hg (N := 2) ?hd (cs := #[.slice A0 h.length c0, .slice A1 0 c1]) (t := 53) ?hr ?_; (case hd => rfl); (case hg => rfl); (case hr => first | (go_simp; done) | (go_simp; rfl)); intro gl hg_ w1 hbox_ hb_; have GE_gl : Aside0 (w.heap.size ≤ gl) := ⟨by rw [hg_]; exact below_size HB.out⟩; have n_ := Aside0.mk (below_step HB.out hb_); clear HB; have HB := n_; clear n_; have BK_gl := Aside0.mk hbox_; have hc_gl_0 : w1.cell? ⟨gl, 0, none⟩ = some (.slice A0 h.length c0) := (blk_cell BK_gl.out 0).trans rfl; have hc_gl_1 : w1.cell? ⟨gl, 1, none⟩ = some (.slice A1 0 c1) := (blk_cell BK_gl.out 1).trans rfl; clear hg_ hbox_ hb_; have ST1 := True.intro))
  have HBR : Aside0 (Below w.heap.size w w3.drew) := ⟨below_drew1 HB.out⟩
  have n_ := HBR
  clear HB
  have HB := n_
  clear n_
  have n_ := Aside0.mk (blk_drew BK_gl.out); clear BK_gl; have BK_gl := n_; clear n_
  have n_ := Aside0.mk (blk_drew BK_gn.out); clear BK_gn; have BK_gn := n_; clear n_
  have n_ := Aside0.mk (blk_drew BK_gr.out); clear BK_gr; have BK_gr := n_; clear n_
  clear hc_gl_0 hc_gl_1 hc_gn_0 hc_gr_0 hc_gr_1
  refine start_ (n := 13) (S := (fun w' => w'.cell? ⟨gl, 0, none⟩ = some (.slice A0 h.length c0) ∧ w'.cell? ⟨gl, 1, none⟩ = some (.slice A1 0 c1))) (ds := [12]) #[false, false, false, false, false, false, false, false, false, false, false, false, false] (by kernel_rfl) rfl rfl ⟨(blk_cell BK_gl.out 0).trans rfl, (blk_cell BK_gl.out 1).trans rfl⟩ (fun hHeld => ?_); refine with_tabW ws_r2_tab ws_r2_bits (fun HT_ HW_ => ?_)
  generalize w3.drew = w20 at BK_gl BK_gn BK_gr HB HBR hHeld ⊢
  refine pure_ (i := 0) (N := some 10) (v := ?_) (a' := ?_) #[true, false, false, false, false, false, false, false, false, false, false, false, false] rfl rfl (any_of HT_.out (by kernel_rfl)) (fun _ _ _ h => h) (Or.inl ⟨by rfl, ?_⟩) ?_ ?_
  rotate_left
  · intro w'
    go_simp
    with_reducible rfl
  rotate_left
  · simp only [Act.put, List.setIfInBounds_toArray, List.set_cons_zero, List.set_cons_succ, i64_w, i32_w]
    rfl
  refine pure_ (i := 3) (N := some 13) (v := ?_) (a' := ?_) #[true, false, false, true, false, false, false, false, false, false, false, false, false] rfl rfl (any_of HT_.out (by kernel_rfl)) (fun _ _ _ h => h) (Or.inl ⟨by rfl, ?_⟩) ?_ ?_
  rotate_left
  · intro w'
    go_simp
    with_reducible rfl
  rotate_left
  · simp only [Act.put, List.setIfInBounds_toArray, List.set_cons_zero, List.set_cons_succ, i64_w, i32_w]
    rfl
  refine pure_ (i := 5) (N := some 15) (v := ?_) (a' := ?_) #[true, false, false, true, false, true, false, false, false, false, false, false, false] rfl rfl (any_of HT_.out (by kernel_rfl)) (fun _ _ _ h => h) (Or.inl ⟨by rfl, ?_⟩) ?_ ?_
  rotate_left
  · intro w'
    go_simp
    with_reducible rfl
  rotate_left
  · simp only [Act.put, List.setIfInBounds_toArray, List.set_cons_zero, List.set_cons_succ, i64_w, i32_w]
    rfl
  refine pure_ (i := 8) (N := some 18) (v := ?_) (a' := ?_) #[true, false, false, true, false, true, false, false, true, false, false, false, false] rfl rfl (any_of HT_.out (by kernel_rfl)) (fun _ _ _ h => h) (Or.inl ⟨by rfl, ?_⟩) ?_ ?_
  rotate_left
  · intro w'
    go_simp
    with_reducible rfl
  rotate_left
  · simp only [Act.put, List.setIfInBounds_toArray, List.set_cons_zero, List.set_cons_succ, i64_w, i32_w]
    rfl
  refine take_ (i := 1) (N := some 11) (v := ?_) (a' := ?_) #[true, true, false, true, false, true, false, false, true, false, false, false, false] rfl rfl (take_ofW HT_.out HW_.out (by kernel_rfl)) (fun _ _ _ h => h) (Or.inl ⟨by rfl, ?_⟩) hHeld ?_ ?_
  rotate_left
  · rintro w' ⟨s0, s1⟩
    go_simp
    with_reducible rfl
  rotate_left
  · simp only [Act.put, List.setIfInBounds_toArray, List.set_cons_zero, List.set_cons_succ, i64_w, i32_w]
    rfl
  refine take_ (i := 6) (N := some 16) (v := ?_) (a' := ?_) #[true, true, false, true, false, true, true, false, true, false, false, false, false] rfl rfl (take_ofW HT_.out HW_.out (by kernel_rfl)) (fun _ _ _ h => h) (Or.inl ⟨by rfl, ?_⟩) hHeld ?_ ?_
  rotate_left
  · rintro w' ⟨s0, s1⟩
    go_simp
    with_reducible rfl
  rotate_left
  · simp only [Act.put, List.setIfInBounds_toArray, List.set_cons_zero, List.set_cons_succ, i64_w, i32_w]
    rfl
  refine two_ (i := 2) (j := 11) (Ni := some 12) (Nj := some 6) #[true, true, true, true, false, true, true, false, true, false, false, false, false] #[true, true, false, true, false, true, true, false, true, false, false, true, false] rfl rfl rfl rfl (two_of HT_.out (by kernel_rfl)) (by decide) (by decide) (fun K hK => ?_) (fun K hK => ?_)
  · skip
    have HBRb0 := HBR
    refine goes_ Try.func108 (by kernel_rfl) rfl #[.slice A0 h.length c0] (by rfl) rfl rfl (by (try simp only [List.map_toArray, List.map_cons, List.map_nil]); first | done | rfl) ?_
    with_reducible refine (ws_clone A0 c0 h _ (Kd.C_below HR.out HBR.out) HC.out HLE.out).mono ?_
    rintro e w21 ⟨A2, c2, rfl, ho_, hb_⟩
    refine ⟨_, rfl, ?_⟩
    have HBb0 := HB
    have HSb0 := Aside0.mk (below_size hb_)
    have n_ := Aside0.mk (blk_below BK_gl.out hb_); clear BK_gl; have BK_gl := n_; clear n_
    have n_ := Aside0.mk (blk_below BK_gn.out hb_); clear BK_gn; have BK_gn := n_; clear n_
    have n_ := Aside0.mk (blk_below BK_gr.out hb_); clear BK_gr; have BK_gr := n_; clear n_
    have n_ := Aside0.mk (below_step HB.out hb_); clear HB; have HB := n_; clear n_
    have n_ := Aside0.mk (below_step HBR.out hb_); clear HBR; have HBR := n_; clear n_
    have HO1 := Aside0.mk ho_
    have HBs := Aside0.mk hb_
    clear ho_ hb_
    refine hK.out _ _ ⟨(blk_cell BK_gl.out 0).trans rfl, (blk_cell BK_gl.out 1).trans rfl⟩ (fun hHeld => ?_)
    clear hK K
    refine norm_ (a' := ?_) ?_ ?_
    rotate_left
    · show Act.put _ (some 12) _ = _
      simp only [Act.put, List.setIfInBounds_toArray, List.set_cons_zero, List.set_cons_succ, i64_w, i32_w]
      rfl
    refine two_ (i := 4) (j := 11) (Ni := some 14) (Nj := some 6) #[true, true, true, true, true, true, true, false, true, false, false, false, false] #[true, true, true, true, false, true, true, false, true, false, false, true, false] rfl rfl rfl rfl (two_of HT_.out (by kernel_rfl)) (by decide) (by decide) (fun K hK => ?_) (fun K hK => ?_)
    · skip
      refine goes_ Try.func107 (by kernel_rfl) rfl #[.slice A2 h.length c2, .func (.func 106) #[] #[.pointer (some ⟨gn, 0, none⟩)]] (by rfl) rfl rfl (by (try simp only [List.map_toArray, List.map_cons, List.map_nil]); first | done | rfl) ?_
      with_reducible refine (ws_del gn who h A2 c2 _ _ _ HO1.out HBs.out (below_size HBs.out) BK_gn.out).mono ?_
      rintro e w23 ⟨A4, c4, rfl, hc_, hd_, hb_, hk_⟩
      refine ⟨_, rfl, ?_⟩
      have n_ := Aside0.mk ((hk_.2 _ (blk_lt BK_gl.out) (Nat.ne_of_lt (blk_lt BK_gl.out)) (Kd.R_ne HO1.out BK_gl.out (by decide))).trans BK_gl.out); clear BK_gl; have BK_gl := n_; clear n_
      have n_ := Aside0.mk ((hk_.2 _ (blk_lt BK_gn.out) (Nat.ne_of_lt (blk_lt BK_gn.out)) (Kd.R_ne HO1.out BK_gn.out (by decide))).trans BK_gn.out); clear BK_gn; have BK_gn := n_; clear n_
      have n_ := Aside0.mk ((hk_.2 _ (blk_lt BK_gr.out) (Nat.ne_of_lt (blk_lt BK_gr.out)) (Kd.R_ne HO1.out BK_gr.out (by decide))).trans BK_gr.out); clear BK_gr; have BK_gr := n_; clear n_
      clear HB; have HB := Aside0.mk (below_step HBb0.out hb_)
      clear HBR; have HBR := Aside0.mk (below_step HBRb0.out hb_)
      have HC1 := Aside0.mk hc_
      have HD1 := Aside0.mk hd_
      clear hc_ hd_ hb_ hk_
      refine hK.out _ _ ⟨(blk_cell BK_gl.out 0).trans rfl, (blk_cell BK_gl.out 1).trans rfl⟩ (fun hHeld => ?_)
      clear hK K
      refine norm_ (a' := ?_) ?_ ?_
      rotate_left
      · show Act.put _ (some 14) _ = _
        simp only [Act.put, List.setIfInBounds_toArray, List.set_cons_zero, List.set_cons_succ, i64_w, i32_w]
        rfl
      refine two_ (i := 7) (j := 11) (Ni := some 17) (Nj := some 6) #[true, true, true, true, true, true, true, true, true, false, false, false, false] #[true, true, true, true, true, true, true, false, true, false, false, true, false] rfl rfl rfl rfl (two_of HT_.out (by kernel_rfl)) (by decide) (by decide) (fun K hK => ?_) (fun K hK => ?_)
      · skip
        have HC1b := HC1
        have HBRb2 := HBR
        refine goes_ Try.func108 (by kernel_rfl) rfl #[.slice A1 ([] : List LA).length c1] (by rfl) rfl rfl (by (try simp only [List.map_toArray, List.map_cons, List.map_nil]); first | done | rfl) ?_
        with_reducible refine (ws_clone A1 c1 [] _ (ws_nilC _ _) (Nat.zero_le _) (Nat.zero_le _)).mono ?_
        rintro e w25 ⟨A3, c3, rfl, ho_, hb_⟩
        refine ⟨_, rfl, ?_⟩
        have HBb2 := HB
        have HSb2 := Aside0.mk (below_size hb_)
        have n_ := Aside0.mk (blk_below BK_gl.out hb_); clear BK_gl; have BK_gl := n_; clear n_
        have n_ := Aside0.mk (blk_below BK_gn.out hb_); clear BK_gn; have BK_gn := n_; clear n_
        have n_ := Aside0.mk (blk_below BK_gr.out hb_); clear BK_gr; have BK_gr := n_; clear n_
        have n_ := Aside0.mk (HC1.out.below hb_); clear HC1; have HC1 := n_; clear n_
        have n_ := Aside0.mk (below_step HB.out hb_); clear HB; have HB := n_; clear n_
        have n_ := Aside0.mk (below_step HBR.out hb_); clear HBR; have HBR := n_; clear n_
        have HO2 := Aside0.mk ho_
        have HBs := Aside0.mk hb_
        clear ho_ hb_
        refine hK.out _ _ ⟨(blk_cell BK_gl.out 0).trans rfl, (blk_cell BK_gl.out 1).trans rfl⟩ (fun hHeld => ?_)
        clear hK K
        refine norm_ (a' := ?_) ?_ ?_
        rotate_left
        · show Act.put _ (some 17) _ = _
          simp only [Act.put, List.setIfInBounds_toArray, List.set_cons_zero, List.set_cons_succ, i64_w, i32_w]
          rfl
        refine two_ (i := 9) (j := 11) (Ni := some 19) (Nj := some 6) #[true, true, true, true, true, true, true, true, true, true, false, false, false] #[true, true, true, true, true, true, true, true, true, false, false, true, false] rfl rfl rfl rfl (two_of HT_.out (by kernel_rfl)) (by decide) (by decide) (fun K hK => ?_) (fun K hK => ?_)
        · skip
          refine goes_ Try.func107 (by kernel_rfl) rfl #[.slice A3 ([] : List LA).length c3, .func (.func 106) #[] #[.pointer (some ⟨gn, 0, none⟩)]] (by rfl) rfl rfl (by (try simp only [List.map_toArray, List.map_cons, List.map_nil]); first | done | rfl) ?_
          with_reducible refine (ws_del gn who ([] : List LA) A3 c3 _ _ _ HO2.out HBs.out (below_size HBs.out) BK_gn.out).mono ?_
          rintro e w27 ⟨A5, c5, rfl, hc_, hd_, hb_, hk_⟩
          refine ⟨_, rfl, ?_⟩
          have n_ := Aside0.mk ((hk_.2 _ (blk_lt BK_gl.out) (Nat.ne_of_lt (blk_lt BK_gl.out)) (Kd.R_ne HO2.out BK_gl.out (by decide))).trans BK_gl.out); clear BK_gl; have BK_gl := n_; clear n_
          have n_ := Aside0.mk ((hk_.2 _ (blk_lt BK_gn.out) (Nat.ne_of_lt (blk_lt BK_gn.out)) (Kd.R_ne HO2.out BK_gn.out (by decide))).trans BK_gn.out); clear BK_gn; have BK_gn := n_; clear n_
          have n_ := Aside0.mk ((hk_.2 _ (blk_lt BK_gr.out) (Nat.ne_of_lt (blk_lt BK_gr.out)) (Kd.R_ne HO2.out BK_gr.out (by decide))).trans BK_gr.out); clear BK_gr; have BK_gr := n_; clear n_
          clear HC1; have HC1 := Aside0.mk (HC1b.out.below hb_)
          clear HB; have HB := Aside0.mk (below_step HBb2.out hb_)
          clear HBR; have HBR := Aside0.mk (below_step HBRb2.out hb_)
          have HC2 := Aside0.mk hc_
          have HD2 := Aside0.mk hd_
          clear hc_ hd_ hb_ hk_
          refine hK.out _ _ ⟨(blk_cell BK_gl.out 0).trans rfl, (blk_cell BK_gl.out 1).trans rfl⟩ (fun hHeld => ?_)
          clear hK K
          refine norm_ (a' := ?_) ?_ ?_
          rotate_left
          · show Act.put _ (some 19) _ = _
            simp only [Act.put, List.setIfInBounds_toArray, List.set_cons_zero, List.set_cons_succ, i64_w, i32_w]
            rfl
          refine pure_ (i := 10) (N := some 20) (v := ?_) (a' := ?_) #[true, true, true, true, true, true, true, true, true, true, true, false, false] rfl rfl (any_of HT_.out (by kernel_rfl)) (fun _ _ _ h => h) (Or.inl ⟨by rfl, ?_⟩) ?_ ?_
          rotate_left
          · intro w'
            go_simp
            with_reducible rfl
          rotate_left
          · simp only [Act.put, List.setIfInBounds_toArray, List.set_cons_zero, List.set_cons_succ, i64_w, i32_w]
            rfl
          refine one_ (i := 11) (N := some 6) #[true, true, true, true, true, true, true, true, true, true, true, true, false] rfl rfl (one_of HT_.out (by kernel_rfl)) (by decide) (fun K hK => ?_)
          refine box_step (by rfl) (N := 6) rfl (cs := #[.slice none 0 0, .slice none 0 0]) (t := 53) (by first | (go_simp; done) | (go_simp; rfl)) ?_
          intro go hg_ w29 hbox_ hb_
          have n1_ := Aside0.mk (below_size HB.out); have GE_go : Aside0 (w.heap.size ≤ go) := ⟨by rw [hg_]; exact n1_.out⟩; clear n1_
          have NE_gl_go : Aside0 (gl ≠ go) := ⟨by rw [hg_]; exact Nat.ne_of_lt (blk_lt BK_gl.out)⟩; have NE_go_gl : Aside0 (go ≠ gl) := ⟨fun he_ => NE_gl_go.out he_.symm⟩
          have NE_gn_go : Aside0 (gn ≠ go) := ⟨by rw [hg_]; exact Nat.ne_of_lt (blk_lt BK_gn.out)⟩; have NE_go_gn : Aside0 (go ≠ gn) := ⟨fun he_ => NE_gn_go.out he_.symm⟩
          have NE_gr_go : Aside0 (gr ≠ go) := ⟨by rw [hg_]; exact Nat.ne_of_lt (blk_lt BK_gr.out)⟩; have NE_go_gr : Aside0 (go ≠ gr) := ⟨fun he_ => NE_gr_go.out he_.symm⟩
          have n_ := Aside0.mk (blk_below BK_gl.out hb_); clear BK_gl; have BK_gl := n_; clear n_
          have n_ := Aside0.mk (blk_below BK_gn.out hb_); clear BK_gn; have BK_gn := n_; clear n_
          have n_ := Aside0.mk (blk_below BK_gr.out hb_); clear BK_gr; have BK_gr := n_; clear n_
          have n_ := Aside0.mk (below_step HB.out hb_); clear HB; have HB := n_; clear n_
          have n_ := Aside0.mk (below_step HBR.out hb_); clear HBR; have HBR := n_; clear n_
          have n_ := Aside0.mk (HC1.out.below hb_); clear HC1; have HC1 := n_; clear n_
          have BK_go := Aside0.mk hbox_
          clear hbox_ hb_ hg_
          refine hK.out _ _ ⟨(blk_cell BK_gl.out 0).trans rfl, (blk_cell BK_gl.out 1).trans rfl⟩ (fun hHeld => ?_)
          clear hK K
          refine norm_ (a' := ?_) ?_ ?_
          rotate_left
          · show Act.put _ (some 6) _ = _
            simp only [Act.put, List.setIfInBounds_toArray, List.set_cons_zero, List.set_cons_succ, i64_w, i32_w]
            rfl
          refine last_ (i := 12) (N := none) #[true, true, true, true, true, true, true, true, true, true, true, true, true] rfl rfl (one_of HT_.out (by kernel_rfl)) (by decide) (fun K hK => ?_)
          have hs0 : w29.cell? ⟨go, 0, none⟩ = some (.slice none 0 0) := (blk_cell BK_go.out 0).trans rfl
          have hs1 : w29.cell? ⟨go, 1, none⟩ = some (.slice none 0 0) := (blk_cell BK_go.out 1).trans rfl
          have hf0 := blk_frozen BK_go.out 0
          have hf1 := blk_frozen BK_go.out 1
          refine skip_ (w1 := ?_) (by rfl) rfl ?_ ?_
          rotate_left
          · go_simp
            rfl
          refine hK.out _ _ ?_
          clear hK K hHeld
          refine done_ (done_of HT_.out (by kernel_rfl)) ?_
          have n_ := Aside0.mk (blk_put (cs := #[.slice A4 (ws_rest who h).length c4, .slice none 0 0]) (blk_put BK_go.out 0 (.slice A4 (ws_rest who h).length c4) rfl) 1 (.slice A5 (ws_rest who []).length c5) rfl)
          have BKT : Aside0 (((w29.setCell ⟨go, 0, none⟩ (.slice A4 (ws_rest who h).length c4)).setCell ⟨go, 1, none⟩ (.slice A5 (ws_rest who []).length c5)).heap[go]? = some (.cells #[.slice A4 (ws_rest who h).length c4, .slice A5 0 c5] 53 (0, 0))) := n_
          clear n_
          have HCT := Aside0.mk ((HC1.out.set BK_go.out (by decide) 0 (.slice A4 (ws_rest who h).length c4)).set (blk_put (cs' := #[.slice A4 (ws_rest who h).length c4, .slice none 0 0]) BK_go.out 0 (.slice A4 (ws_rest who h).length c4) rfl) (by decide) 1 (.slice A5 (ws_rest who []).length c5))
          have BGT := Aside0.mk (blk_far (blk_far BK_gr.out (p := ⟨go, 0, none⟩) NE_gr_go.out (.slice A4 (ws_rest who h).length c4)) (p := ⟨go, 1, none⟩) NE_gr_go.out (.slice A5 (ws_rest who []).length c5))
          have HBT := Aside0.mk (below_set (j := 1) (v := .slice A5 (ws_rest who []).length c5) (below_set (j := 0) (v := .slice A4 (ws_rest who h).length c4) HB.out GE_go.out) GE_go.out)
          generalize (w29.setCell ⟨go, 0, none⟩ (.slice A4 (ws_rest who h).length c4)).setCell ⟨go, 1, none⟩ (.slice A5 (ws_rest who []).length c5) = wt at BKT HCT BGT HBT ⊢
          clear BK_go BK_gr HB hs0 hs1 hf0 hf1
          try go_wp2
          go_loopg [7, 8] 0 (fun gg s7 s8 wr => s7 = .int .i64 0 ∧ Aside0 (wr.heap[go]? = some (.cells #[.slice A4 (ws_rest who h).length c4, .slice A5 0 c5] 53 (0, 0))) ∧ Aside0 (ws_C wr A4 (ws_rest who h)) ∧ Aside0 (wr.heap[gr]? = some (.cells #[.slice none 0 0, .slice none 0 0] 53 (0, 0))) ∧ Aside0 (Below w.heap.size w wr))
          case atStart => exact ⟨rfl, BKT, HCT, BGT, HBT⟩
          case round =>
            obtain ⟨rfl, BK_go, HCW, BK_gr, HB⟩ := hrel
            have hc_go_0 : wr.cell? ⟨go, 0, none⟩ = some (.slice A4 (ws_rest who h).length c4) := (blk_cell BK_go.out 0).trans rfl
            have hc_go_1 : wr.cell? ⟨go, 1, none⟩ = some (.slice A5 0 c5) := (blk_cell BK_go.out 1).trans rfl
            go_wp2_with (go_at_call 71; refine calls_of_args (args' := #[.agg #[.slice A4 (ws_rest who h).length c4, .slice A5 ([] : List LA).length c5]]) (by rfl) ?_; (with_reducible refine (impl_Locks_copy.calls A4 c4 (ws_rest who h) A5 c5 [] (ws_rest who h) [] _ HCW.out.C HD1.out (ws_nilC _ _) (Nat.zero_le _) HCP.out).mono ?_); rintro e wz ⟨v0, v1, rfl, hs0_, hs1_, hb_⟩; obtain ⟨B0, b0, e0_⟩ := Kd.R_slice hs0_; subst e0_; obtain ⟨B1, b1, e1_⟩ := Kd.R_slice hs1_; have e1' : v1 = .slice B1 0 b1 := e1_; subst e1'; have HO := Aside0.mk hs0_; have n_ := Aside0.mk (blk_below BK_gr.out hb_); clear BK_gr; have BK_gr := n_; clear n_; have n_ := Aside0.mk (below_step HB.out hb_); clear HB; have HB := n_; clear n_; have hg0 : wz.cell? ⟨gr, 0, none⟩ = some (.slice none 0 0) := (blk_cell BK_gr.out 0).trans rfl; have hg1 : wz.cell? ⟨gr, 1, none⟩ = some (.slice none 0 0) := (blk_cell BK_gr.out 1).trans rfl; have hf0 := blk_frozen BK_gr.out 0; have hf1 := blk_frozen BK_gr.out 1; clear hs0_ hs1_ hb_ hc_go_0 hc_go_1 e1_)
            refine bodyPost_ret (results_cell_row rfl _ _ gr 53 #[.slice B0 (ws_rest who h).length b0, .slice B1 0 b1] (0, 0) _ rfl (by refine blk_put (cs := #[.slice B0 (ws_rest who h).length b0, .slice none 0 0]) ?_ 1 _ rfl; exact blk_put BK_gr.out 0 _ rfl) Try.underlying53 rfl (by kernel_rfl)) rfl ?_
            exact ⟨B0, b0, B1, b1, rfl, ((ws_C.of_R HO.out).set BK_gr.out (by decide) 0 _).set (blk_put BK_gr.out 0 _ rfl) (by decide) 1 _, (Kd.R_reads' HO.out).2.1, below_set (below_set HB.out GE_gr.out) GE_gr.out⟩
        · skip
          refine box_step (by rfl) (N := 6) rfl (cs := #[.slice none 0 0, .slice none 0 0]) (t := 53) (by first | (go_simp; done) | (go_simp; rfl)) ?_
          intro go hg_ w28 hbox_ hb_
          have n1_ := Aside0.mk (below_size HB.out); have GE_go : Aside0 (w.heap.size ≤ go) := ⟨by rw [hg_]; exact n1_.out⟩; clear n1_
          have NE_gl_go : Aside0 (gl ≠ go) := ⟨by rw [hg_]; exact Nat.ne_of_lt (blk_lt BK_gl.out)⟩; have NE_go_gl : Aside0 (go ≠ gl) := ⟨fun he_ => NE_gl_go.out he_.symm⟩
          have NE_gn_go : Aside0 (gn ≠ go) := ⟨by rw [hg_]; exact Nat.ne_of_lt (blk_lt BK_gn.out)⟩; have NE_go_gn : Aside0 (go ≠ gn) := ⟨fun he_ => NE_gn_go.out he_.symm⟩
          have NE_gr_go : Aside0 (gr ≠ go) := ⟨by rw [hg_]; exact Nat.ne_of_lt (blk_lt BK_gr.out)⟩; have NE_go_gr : Aside0 (go ≠ gr) := ⟨fun he_ => NE_gr_go.out he_.symm⟩
          have n_ := Aside0.mk (blk_below BK_gl.out hb_); clear BK_gl; have BK_gl := n_; clear n_
          have n_ := Aside0.mk (blk_below BK_gn.out hb_); clear BK_gn; have BK_gn := n_; clear n_
          have n_ := Aside0.mk (blk_below BK_gr.out hb_); clear BK_gr; have BK_gr := n_; clear n_
          have n_ := Aside0.mk (below_step HB.out hb_); clear HB; have HB := n_; clear n_
          have n_ := Aside0.mk (below_step HBR.out hb_); clear HBR; have HBR := n_; clear n_
          have n_ := Aside0.mk (HC1.out.below hb_); clear HC1; have HC1 := n_; clear n_
          have n_ := Aside0.mk (Kd.R_below HO2.out hb_); clear HO2; have HO2 := n_; clear n_
          have n_ := Aside0.mk (below_step HBs.out hb_); clear HBs; have HBs := n_; clear n_
          have BK_go := Aside0.mk hbox_
          clear hbox_ hb_ hg_
          refine hK.out _ _ ⟨(blk_cell BK_gl.out 0).trans rfl, (blk_cell BK_gl.out 1).trans rfl⟩ (fun hHeld => ?_)
          clear hK K
          refine norm_ (a' := ?_) ?_ ?_
          rotate_left
          · show Act.put _ (some 6) _ = _
            simp only [Act.put, List.setIfInBounds_toArray, List.set_cons_zero, List.set_cons_succ, i64_w, i32_w]
            rfl
          refine one_ (i := 9) (N := some 19) #[true, true, true, true, true, true, true, true, true, true, false, true, false] rfl rfl (one_of HT_.out (by kernel_rfl)) (by decide) (fun K hK => ?_)
          refine goes_ Try.func107 (by kernel_rfl) rfl #[.slice A3 ([] : List LA).length c3, .func (.func 106) #[] #[.pointer (some ⟨gn, 0, none⟩)]] (by rfl) rfl rfl (by (try simp only [List.map_toArray, List.map_cons, List.map_nil]); first | done | rfl) ?_
          with_reducible refine (ws_del gn who ([] : List LA) A3 c3 _ _ _ HO2.out HBs.out (below_size HBs.out) BK_gn.out).mono ?_
          rintro e w30 ⟨A5, c5, rfl, hc_, hd_, hb_, hk_⟩
          refine ⟨_, rfl, ?_⟩
          have n_ := Aside0.mk ((hk_.2 _ (blk_lt BK_gl.out) (Nat.ne_of_lt (blk_lt BK_gl.out)) (Kd.R_ne HO2.out BK_gl.out (by decide))).trans BK_gl.out); clear BK_gl; have BK_gl := n_; clear n_
          have n_ := Aside0.mk ((hk_.2 _ (blk_lt BK_gn.out) (Nat.ne_of_lt (blk_lt BK_gn.out)) (Kd.R_ne HO2.out BK_gn.out (by decide))).trans BK_gn.out); clear BK_gn; have BK_gn := n_; clear n_
          have n_ := Aside0.mk ((hk_.2 _ (blk_lt BK_gr.out) (Nat.ne_of_lt (blk_lt BK_gr.out)) (Kd.R_ne HO2.out BK_gr.out (by decide))).trans BK_gr.out); clear BK_gr; have BK_gr := n_; clear n_
          have n_ := Aside0.mk ((hk_.2 _ (blk_lt BK_go.out) (Nat.ne_of_lt (blk_lt BK_go.out)) (Kd.R_ne HO2.out BK_go.out (by decide))).trans BK_go.out); clear BK_go; have BK_go := n_; clear n_
          clear HC1; have HC1 := Aside0.mk (HC1b.out.below hb_)
          clear HB; have HB := Aside0.mk (below_step HBb2.out hb_)
          clear HBR; have HBR := Aside0.mk (below_step HBRb2.out hb_)
          have HC2 := Aside0.mk hc_
          have HD2 := Aside0.mk hd_
          clear hc_ hd_ hb_ hk_
          refine hK.out _ _ ⟨(blk_cell BK_gl.out 0).trans rfl, (blk_cell BK_gl.out 1).trans rfl⟩ (fun hHeld => ?_)
          clear hK K
          refine norm_ (a' := ?_) ?_ ?_
          rotate_left
          · show Act.put _ (some 19) _ = _
            simp only [Act.put, List.setIfInBounds_toArray, List.set_cons_zero, List.set_cons_succ, i64_w, i32_w]
            rfl
          refine pure_ (i := 10) (N := some 20) (v := ?_) (a' := ?_) #[true, true, true, true, true, true, true, true, true, true, true, true, false] rfl rfl (any_of HT_.out (by kernel_rfl)) (fun _ _ _ h => h) (Or.inl ⟨by rfl, ?_⟩) ?_ ?_
          rotate_left
          · intro w'
            go_simp
            with_reducible rfl
          rotate_left
          · simp only [Act.put, List.setIfInBounds_toArray, List.set_cons_zero, List.set_cons_succ, i64_w, i32_w]
            rfl
          refine last_ (i := 12) (N := none) #[true, true, true, true, true, true, true, true, true, true, true, true, true] rfl rfl (one_of HT_.out (by kernel_rfl)) (by decide) (fun K hK => ?_)
          have hs0 : w30.cell? ⟨go, 0, none⟩ = some (.slice none 0 0) := (blk_cell BK_go.out 0).trans rfl
          have hs1 : w30.cell? ⟨go, 1, none⟩ = some (.slice none 0 0) := (blk_cell BK_go.out 1).trans rfl
          have hf0 := blk_frozen BK_go.out 0
          have hf1 := blk_frozen BK_go.out 1
          refine skip_ (w1 := ?_) (by rfl) rfl ?_ ?_
          rotate_left
          · go_simp
            rfl
          refine hK.out _ _ ?_
          clear hK K hHeld
          refine done_ (done_of HT_.out (by kernel_rfl)) ?_
          have n_ := Aside0.mk (blk_put (cs := #[.slice A4 (ws_rest who h).length c4, .slice none 0 0]) (blk_put BK_go.out 0 (.slice A4 (ws_rest who h).length c4) rfl) 1 (.slice A5 (ws_rest who []).length c5) rfl)
          have BKT : Aside0 (((w30.setCell ⟨go, 0, none⟩ (.slice A4 (ws_rest who h).length c4)).setCell ⟨go, 1, none⟩ (.slice A5 (ws_rest who []).length c5)).heap[go]? = some (.cells #[.slice A4 (ws_rest who h).length c4, .slice A5 0 c5] 53 (0, 0))) := n_
          clear n_
          have HCT := Aside0.mk ((HC1.out.set BK_go.out (by decide) 0 (.slice A4 (ws_rest who h).length c4)).set (blk_put (cs' := #[.slice A4 (ws_rest who h).length c4, .slice none 0 0]) BK_go.out 0 (.slice A4 (ws_rest who h).length c4) rfl) (by decide) 1 (.slice A5 (ws_rest who []).length c5))
          have BGT := Aside0.mk (blk_far (blk_far BK_gr.out (p := ⟨go, 0, none⟩) NE_gr_go.out (.slice A4 (ws_rest who h).length c4)) (p := ⟨go, 1, none⟩) NE_gr_go.out (.slice A5 (ws_rest who []).length c5))
          have HBT := Aside0.mk (below_set (j := 1) (v := .slice A5 (ws_rest who []).length c5) (below_set (j := 0) (v := .slice A4 (ws_rest who h).length c4) HB.out GE_go.out) GE_go.out)
          generalize (w30.setCell ⟨go, 0, none⟩ (.slice A4 (ws_rest who h).length c4)).setCell ⟨go, 1, none⟩ (.slice A5 (ws_rest who []).length c5) = wt at BKT HCT BGT HBT ⊢
          clear BK_go BK_gr HB hs0 hs1 hf0 hf1
          try go_wp2
          go_loopg [7, 8] 0 (fun gg s7 s8 wr => s7 = .int .i64 0 ∧ Aside0 (wr.heap[go]? = some (.cells #[.slice A4 (ws_rest who h).length c4, .slice A5 0 c5] 53 (0, 0))) ∧ Aside0 (ws_C wr A4 (ws_rest who h)) ∧ Aside0 (wr.heap[gr]? = some (.cells #[.slice none 0 0, .slice none 0 0] 53 (0, 0))) ∧ Aside0 (Below w.heap.size w wr))
          case atStart => exact ⟨rfl, BKT, HCT, BGT, HBT⟩
          case round =>
            obtain ⟨rfl, BK_go, HCW, BK_gr, HB⟩ := hrel
            have hc_go_0 : wr.cell? ⟨go, 0, none⟩ = some (.slice A4 (ws_rest who h).length c4) := (blk_cell BK_go.out 0).trans rfl
            have hc_go_1 : wr.cell? ⟨go, 1, none⟩ = some (.slice A5 0 c5) := (blk_cell BK_go.out 1).trans rfl
            go_wp2_with (go_at_call 71; refine calls_of_args (args' := #[.agg #[.slice A4 (ws_rest who h).length c4, .slice A5 ([] : List LA).length c5]]) (by rfl) ?_; (with_reducible refine (impl_Locks_copy.calls A4 c4 (ws_rest who h) A5 c5 [] (ws_rest who h) [] _ HCW.out.C HD1.out (ws_nilC _ _) (Nat.zero_le _) HCP.out).mono ?_); rintro e wz ⟨v0, v1, rfl, hs0_, hs1_, hb_⟩; obtain ⟨B0, b0, e0_⟩ := Kd.R_slice hs0_; subst e0_; obtain ⟨B1, b1, e1_⟩ := Kd.R_slice hs1_; have e1' : v1 = .slice B1 0 b1 := e1_; subst e1'; have HO := Aside0.mk hs0_; have n_ := Aside0.mk (blk_below BK_gr.out hb_); clear BK_gr; have BK_gr := n_; clear n_; have n_ := Aside0.mk (below_step HB.out hb_); clear HB; have HB := n_; clear n_; have hg0 : wz.cell? ⟨gr, 0, none⟩ = some (.slice none 0 0) := (blk_cell BK_gr.out 0).trans rfl; have hg1 : wz.cell? ⟨gr, 1, none⟩ = some (.slice none 0 0) := (blk_cell BK_gr.out 1).trans rfl; have hf0 := blk_frozen BK_gr.out 0; have hf1 := blk_frozen BK_gr.out 1; clear hs0_ hs1_ hb_ hc_go_0 hc_go_1 e1_)
            refine bodyPost_ret (results_cell_row rfl _ _ gr 53 #[.slice B0 (ws_rest who h).length b0, .slice B1 0 b1] (0, 0) _ rfl (by refine blk_put (cs := #[.slice B0 (ws_rest who h).length b0, .slice none 0 0]) ?_ 1 _ rfl; exact blk_put BK_gr.out 0 _ rfl) Try.underlying53 rfl (by kernel_rfl)) rfl ?_
            exact ⟨B0, b0, B1, b1, rfl, ((ws_C.of_R HO.out).set BK_gr.out (by decide) 0 _).set (blk_put BK_gr.out 0 _ rfl) (by decide) 1 _, (Kd.R_reads' HO.out).2.1, below_set (below_set HB.out GE_gr.out) GE_gr.out⟩
      · skip
        refine box_step (by rfl) (N := 6) rfl (cs := #[.slice none 0 0, .slice none 0 0]) (t := 53) (by first | (go_simp; done) | (go_simp; rfl)) ?_
        intro go hg_ w26 hbox_ hb_
        have n1_ := Aside0.mk (below_size HB.out); have GE_go : Aside0 (w.heap.size ≤ go) := ⟨by rw [hg_]; exact n1_.out⟩; clear n1_
        have NE_gl_go : Aside0 (gl ≠ go) := ⟨by rw [hg_]; exact Nat.ne_of_lt (blk_lt BK_gl.out)⟩; have NE_go_gl : Aside0 (go ≠ gl) := ⟨fun he_ => NE_gl_go.out he_.symm⟩
        have NE_gn_go : Aside0 (gn ≠ go) := ⟨by rw [hg_]; exact Nat.ne_of_lt (blk_lt BK_gn.out)⟩; have NE_go_gn : Aside0 (go ≠ gn) := ⟨fun he_ => NE_gn_go.out he_.symm⟩
        have NE_gr_go : Aside0 (gr ≠ go) := ⟨by rw [hg_]; exact Nat.ne_of_lt (blk_lt BK_gr.out)⟩; have NE_go_gr : Aside0 (go ≠ gr) := ⟨fun he_ => NE_gr_go.out he_.symm⟩
        have n_ := Aside0.mk (blk_below BK_gl.out hb_); clear BK_gl; have BK_gl := n_; clear n_
        have n_ := Aside0.mk (blk_below BK_gn.out hb_); clear BK_gn; have BK_gn := n_; clear n_
        have n_ := Aside0.mk (blk_below BK_gr.out hb_); clear BK_gr; have BK_gr := n_; clear n_
        have n_ := Aside0.mk (below_step HB.out hb_); clear HB; have HB := n_; clear n_
        have n_ := Aside0.mk (below_step HBR.out hb_); clear HBR; have HBR := n_; clear n_
        have n_ := Aside0.mk (HC1.out.below hb_); clear HC1; have HC1 := n_; clear n_
        have BK_go := Aside0.mk hbox_
        clear hbox_ hb_ hg_
        refine hK.out _ _ ⟨(blk_cell BK_gl.out 0).trans rfl, (blk_cell BK_gl.out 1).trans rfl⟩ (fun hHeld => ?_)
        clear hK K
        refine norm_ (a' := ?_) ?_ ?_
        rotate_left
        · show Act.put _ (some 6) _ = _
          simp only [Act.put, List.setIfInBounds_toArray, List.set_cons_zero, List.set_cons_succ, i64_w, i32_w]
          rfl
        refine one_ (i := 7) (N := some 17) #[true, true, true, true, true, true, true, true, true, false, false, true, false] rfl rfl (one_of HT_.out (by kernel_rfl)) (by decide) (fun K hK => ?_)
        have HC1b := HC1
        have HBRb2 := HBR
        refine goes_ Try.func108 (by kernel_rfl) rfl #[.slice A1 ([] : List LA).length c1] (by rfl) rfl rfl (by (try simp only [List.map_toArray, List.map_cons, List.map_nil]); first | done | rfl) ?_
        with_reducible refine (ws_clone A1 c1 [] _ (ws_nilC _ _) (Nat.zero_le _) (Nat.zero_le _)).mono ?_
        rintro e w31 ⟨A3, c3, rfl, ho_, hb_⟩
        refine ⟨_, rfl, ?_⟩
        have HBb2 := HB
        have HSb2 := Aside0.mk (below_size hb_)
        have n_ := Aside0.mk (blk_below BK_gl.out hb_); clear BK_gl; have BK_gl := n_; clear n_
        have n_ := Aside0.mk (blk_below BK_gn.out hb_); clear BK_gn; have BK_gn := n_; clear n_
        have n_ := Aside0.mk (blk_below BK_gr.out hb_); clear BK_gr; have BK_gr := n_; clear n_
        have n_ := Aside0.mk (blk_below BK_go.out hb_); clear BK_go; have BK_go := n_; clear n_
        have n_ := Aside0.mk (HC1.out.below hb_); clear HC1; have HC1 := n_; clear n_
        have n_ := Aside0.mk (below_step HB.out hb_); clear HB; have HB := n_; clear n_
        have n_ := Aside0.mk (below_step HBR.out hb_); clear HBR; have HBR := n_; clear n_
        have HO2 := Aside0.mk ho_
        have HBs := Aside0.mk hb_
        clear ho_ hb_
        refine hK.out _ _ ⟨(blk_cell BK_gl.out 0).trans rfl, (blk_cell BK_gl.out 1).trans rfl⟩ (fun hHeld => ?_)
        clear hK K
        refine norm_ (a' := ?_) ?_ ?_
        rotate_left
        · show Act.put _ (some 17) _ = _
          simp only [Act.put, List.setIfInBounds_toArray, List.set_cons_zero, List.set_cons_succ, i64_w, i32_w]
          rfl
        refine one_ (i := 9) (N := some 19) #[true, true, true, true, true, true, true, true, true, true, false, true, false] rfl rfl (one_of HT_.out (by kernel_rfl)) (by decide) (fun K hK => ?_)
        refine goes_ Try.func107 (by kernel_rfl) rfl #[.slice A3 ([] : List LA).length c3, .func (.func 106) #[] #[.pointer (some ⟨gn, 0, none⟩)]] (by rfl) rfl rfl (by (try simp only [List.map_toArray, List.map_cons, List.map_nil]); first | done | rfl) ?_
        with_reducible refine (ws_del gn who ([] : List LA) A3 c3 _ _ _ HO2.out HBs.out (below_size HBs.out) BK_gn.out).mono ?_
        rintro e w32 ⟨A5, c5, rfl, hc_, hd_, hb_, hk_⟩
        refine ⟨_, rfl, ?_⟩
        have n_ := Aside0.mk ((hk_.2 _ (blk_lt BK_gl.out) (Nat.ne_of_lt (blk_lt BK_gl.out)) (Kd.R_ne HO2.out BK_gl.out (by decide))).trans BK_gl.out); clear BK_gl; have BK_gl := n_; clear n_
        have n_ := Aside0.mk ((hk_.2 _ (blk_lt BK_gn.out) (Nat.ne_of_lt (blk_lt BK_gn.out)) (Kd.R_ne HO2.out BK_gn.out (by decide))).trans BK_gn.out); clear BK_gn; have BK_gn := n_; clear n_
        have n_ := Aside0.mk ((hk_.2 _ (blk_lt BK_gr.out) (Nat.ne_of_lt (blk_lt BK_gr.out)) (Kd.R_ne HO2.out BK_gr.out (by decide))).trans BK_gr.out); clear BK_gr; have BK_gr := n_; clear n_
        have n_ := Aside0.mk ((hk_.2 _ (blk_lt BK_go.out) (Nat.ne_of_lt (blk_lt BK_go.out)) (Kd.R_ne HO2.out BK_go.out (by decide))).trans BK_go.out); clear BK_go; have BK_go := n_; clear n_
        clear HC1; have HC1 := Aside0.mk (HC1b.out.below hb_)
        clear HB; have HB := Aside0.mk (below_step HBb2.out hb_)
        clear HBR; have HBR := Aside0.mk (below_step HBRb2.out hb_)
        have HC2 := Aside0.mk hc_
        have HD2 := Aside0.mk hd_
        clear hc_ hd_ hb_ hk_
        refine hK.out _ _ ⟨(blk_cell BK_gl.out 0).trans rfl, (blk_cell BK_gl.out 1).trans rfl⟩ (fun hHeld => ?_)
        clear hK K
        refine norm_ (a' := ?_) ?_ ?_
        rotate_left
        · show Act.put _ (some 19) _ = _
          simp only [Act.put, List.setIfInBounds_toArray, List.set_cons_zero, List.set_cons_succ, i64_w, i32_w]
          rfl
        refine pure_ (i := 10) (N := some 20) (v := ?_) (a' := ?_) #[true, true, true, true, true, true, true, true, true, true, true, true, false] rfl rfl (any_of HT_.out (by kernel_rfl)) (fun _ _ _ h => h) (Or.inl ⟨by rfl, ?_⟩) ?_ ?_
        rotate_left
        · intro w'
          go_simp
          with_reducible rfl
        rotate_left
        · simp only [Act.put, List.setIfInBounds_toArray, List.set_cons_zero, List.set_cons_succ, i64_w, i32_w]
          rfl
        refine last_ (i := 12) (N := none) #[true, true, true, true, true, true, true, true, true, true, true, true, true] rfl rfl (one_of HT_.out (by kernel_rfl)) (by decide) (fun K hK => ?_)
        have hs0 : w32.cell? ⟨go, 0, none⟩ = some (.slice none 0 0) := (blk_cell BK_go.out 0).trans rfl
        have hs1 : w32.cell? ⟨go, 1, none⟩ = some (.slice none 0 0) := (blk_cell BK_go.out 1).trans rfl
        have hf0 := blk_frozen BK_go.out 0
        have hf1 := blk_frozen BK_go.out 1
        refine skip_ (w1 := ?_) (by rfl) rfl ?_ ?_
        rotate_left
        · go_simp
          rfl
        refine hK.out _ _ ?_
        clear hK K hHeld
        refine done_ (done_of HT_.out (by kernel_rfl)) ?_
        have n_ := Aside0.mk (blk_put (cs := #[.slice A4 (ws_rest who h).length c4, .slice none 0 0]) (blk_put BK_go.out 0 (.slice A4 (ws_rest who h).length c4) rfl) 1 (.slice A5 (ws_rest who []).length c5) rfl)
        have BKT : Aside0 (((w32.setCell ⟨go, 0, none⟩ (.slice A4 (ws_rest who h).length c4)).setCell ⟨go, 1, none⟩ (.slice A5 (ws_rest who []).length c5)).heap[go]? = some (.cells #[.slice A4 (ws_rest who h).length c4, .slice A5 0 c5] 53 (0, 0))) := n_
        clear n_
        have HCT := Aside0.mk ((HC1.out.set BK_go.out (by decide) 0 (.slice A4 (ws_rest who h).length c4)).set (blk_put (cs' := #[.slice A4 (ws_rest who h).length c4, .slice none 0 0]) BK_go.out 0 (.slice A4 (ws_rest who h).length c4) rfl) (by decide) 1 (.slice A5 (ws_rest who []).length c5))
        have BGT := Aside0.mk (blk_far (blk_far BK_gr.out (p := ⟨go, 0, none⟩) NE_gr_go.out (.slice A4 (ws_rest who h).length c4)) (p := ⟨go, 1, none⟩) NE_gr_go.out (.slice A5 (ws_rest who []).length c5))
        have HBT := Aside0.mk (below_set (j := 1) (v := .slice A5 (ws_rest who []).length c5) (below_set (j := 0) (v := .slice A4 (ws_rest who h).length c4) HB.out GE_go.out) GE_go.out)
        generalize (w32.setCell ⟨go, 0, none⟩ (.slice A4 (ws_rest who h).length c4)).setCell ⟨go, 1, none⟩ (.slice A5 (ws_rest who []).length c5) = wt at BKT HCT BGT HBT ⊢
        clear BK_go BK_gr HB hs0 hs1 hf0 hf1
        try go_wp2
        go_loopg [7, 8] 0 (fun gg s7 s8 wr => s7 = .int .i64 0 ∧ Aside0 (wr.heap[go]? = some (.cells #[.slice A4 (ws_rest who h).length c4, .slice A5 0 c5] 53 (0, 0))) ∧ Aside0 (ws_C wr A4 (ws_rest who h)) ∧ Aside0 (wr.heap[gr]? = some (.cells #[.slice none 0 0, .slice none 0 0] 53 (0, 0))) ∧ Aside0 (Below w.heap.size w wr))
        case atStart => exact ⟨rfl, BKT, HCT, BGT, HBT⟩
        case round =>
          obtain ⟨rfl, BK_go, HCW, BK_gr, HB⟩ := hrel
          have hc_go_0 : wr.cell? ⟨go, 0, none⟩ = some (.slice A4 (ws_rest who h).length c4) := (blk_cell BK_go.out 0).trans rfl
          have hc_go_1 : wr.cell? ⟨go, 1, none⟩ = some (.slice A5 0 c5) := (blk_cell BK_go.out 1).trans rfl
          go_wp2_with (go_at_call 71; refine calls_of_args (args' := #[.agg #[.slice A4 (ws_rest who h).length c4, .slice A5 ([] : List LA).length c5]]) (by rfl) ?_; (with_reducible refine (impl_Locks_copy.calls A4 c4 (ws_rest who h) A5 c5 [] (ws_rest who h) [] _ HCW.out.C HD1.out (ws_nilC _ _) (Nat.zero_le _) HCP.out).mono ?_); rintro e wz ⟨v0, v1, rfl, hs0_, hs1_, hb_⟩; obtain ⟨B0, b0, e0_⟩ := Kd.R_slice hs0_; subst e0_; obtain ⟨B1, b1, e1_⟩ := Kd.R_slice hs1_; have e1' : v1 = .slice B1 0 b1 := e1_; subst e1'; have HO := Aside0.mk hs0_; have n_ := Aside0.mk (blk_below BK_gr.out hb_); clear BK_gr; have BK_gr := n_; clear n_; have n_ := Aside0.mk (below_step HB.out hb_); clear HB; have HB := n_; clear n_; have hg0 : wz.cell? ⟨gr, 0, none⟩ = some (.slice none 0 0) := (blk_cell BK_gr.out 0).trans rfl; have hg1 : wz.cell? ⟨gr, 1, none⟩ = some (.slice none 0 0) := (blk_cell BK_gr.out 1).trans rfl; have hf0 := blk_frozen BK_gr.out 0; have hf1 := blk_frozen BK_gr.out 1; clear hs0_ hs1_ hb_ hc_go_0 hc_go_1 e1_)
          refine bodyPost_ret (results_cell_row rfl _ _ gr 53 #[.slice B0 (ws_rest who h).length b0, .slice B1 0 b1] (0, 0) _ rfl (by refine blk_put (cs := #[.slice B0 (ws_rest who h).length b0, .slice none 0 0]) ?_ 1 _ rfl; exact blk_put BK_gr.out 0 _ rfl) Try.underlying53 rfl (by kernel_rfl)) rfl ?_
          exact ⟨B0, b0, B1, b1, rfl, ((ws_C.of_R HO.out).set BK_gr.out (by decide) 0 _).set (blk_put BK_gr.out 0 _ rfl) (by decide) 1 _, (Kd.R_reads' HO.out).2.1, below_set (below_set HB.out GE_gr.out) GE_gr.out⟩
    · skip
      refine box_step (by rfl) (N := 6) rfl (cs := #[.slice none 0 0, .slice none 0 0]) (t := 53) (by first | (go_simp; done) | (go_simp; rfl)) ?_
      intro go hg_ w24 hbox_ hb_
      have n1_ := Aside0.mk (below_size HB.out); have GE_go : Aside0 (w.heap.size ≤ go) := ⟨by rw [hg_]; exact n1_.out⟩; clear n1_
      have NE_gl_go : Aside0 (gl ≠ go) := ⟨by rw [hg_]; exact Nat.ne_of_lt (blk_lt BK_gl.out)⟩; have NE_go_gl : Aside0 (go ≠ gl) := ⟨fun he_ => NE_gl_go.out he_.symm⟩
      have NE_gn_go : Aside0 (gn ≠ go) := ⟨by rw [hg_]; exact Nat.ne_of_lt (blk_lt BK_gn.out)⟩; have NE_go_gn : Aside0 (go ≠ gn) := ⟨fun he_ => NE_gn_go.out he_.symm⟩
      have NE_gr_go : Aside0 (gr ≠ go) := ⟨by rw [hg_]; exact Nat.ne_of_lt (blk_lt BK_gr.out)⟩; have NE_go_gr : Aside0 (go ≠ gr) := ⟨fun he_ => NE_gr_go.out he_.symm⟩
      have n_ := Aside0.mk (blk_below BK_gl.out hb_); clear BK_gl; have BK_gl := n_; clear n_
      have n_ := Aside0.mk (blk_below BK_gn.out hb_); clear BK_gn; have BK_gn := n_; clear n_
      have n_ := Aside0.mk (blk_below BK_gr.out hb_); clear BK_gr; have BK_gr := n_; clear n_
      have n_ := Aside0.mk (below_step HB.out hb_); clear HB; have HB := n_; clear n_
      have n_ := Aside0.mk (below_step HBR.out hb_); clear HBR; have HBR := n_; clear n_
      have n_ := Aside0.mk (Kd.R_below HO1.out hb_); clear HO1; have HO1 := n_; clear n_
      have n_ := Aside0.mk (below_step HBs.out hb_); clear HBs; have HBs := n_; clear n_
      have BK_go := Aside0.mk hbox_
      clear hbox_ hb_ hg_
      refine hK.out _ _ ⟨(blk_cell BK_gl.out 0).trans rfl, (blk_cell BK_gl.out 1).trans rfl⟩ (fun hHeld => ?_)
      clear hK K
      refine norm_ (a' := ?_) ?_ ?_
      rotate_left
      · show Act.put _ (some 6) _ = _
        simp only [Act.put, List.setIfInBounds_toArray, List.set_cons_zero, List.set_cons_succ, i64_w, i32_w]
        rfl
      refine one_ (i := 4) (N := some 14) #[true, true, true, true, true, true, true, false, true, false, false, true, false] rfl rfl (one_of HT_.out (by kernel_rfl)) (by decide) (fun K hK => ?_)
      refine goes_ Try.func107 (by kernel_rfl) rfl #[.slice A2 h.length c2, .func (.func 106) #[] #[.pointer (some ⟨gn, 0, none⟩)]] (by rfl) rfl rfl (by (try simp only [List.map_toArray, List.map_cons, List.map_nil]); first | done | rfl) ?_
      with_reducible refine (ws_del gn who h A2 c2 _ _ _ HO1.out HBs.out (below_size HBs.out) BK_gn.out).mono ?_
      rintro e w33 ⟨A4, c4, rfl, hc_, hd_, hb_, hk_⟩
      refine ⟨_, rfl, ?_⟩
      have n_ := Aside0.mk ((hk_.2 _ (blk_lt BK_gl.out) (Nat.ne_of_lt (blk_lt BK_gl.out)) (Kd.R_ne HO1.out BK_gl.out (by decide))).trans BK_gl.out); clear BK_gl; have BK_gl := n_; clear n_
      have n_ := Aside0.mk ((hk_.2 _ (blk_lt BK_gn.out) (Nat.ne_of_lt (blk_lt BK_gn.out)) (Kd.R_ne HO1.out BK_gn.out (by decide))).trans BK_gn.out); clear BK_gn; have BK_gn := n_; clear n_
      have n_ := Aside0.mk ((hk_.2 _ (blk_lt BK_gr.out) (Nat.ne_of_lt (blk_lt BK_gr.out)) (Kd.R_ne HO1.out BK_gr.out (by decide))).trans BK_gr.out); clear BK_gr; have BK_gr := n_; clear n_
      have n_ := Aside0.mk ((hk_.2 _ (blk_lt BK_go.out) (Nat.ne_of_lt (blk_lt BK_go.out)) (Kd.R_ne HO1.out BK_go.out (by decide))).trans BK_go.out); clear BK_go; have BK_go := n_; clear n_
      clear HB; have HB := Aside0.mk (below_step HBb0.out hb_)
      clear HBR; have HBR := Aside0.mk (below_step HBRb0.out hb_)
      have HC1 := Aside0.mk hc_
      have HD1 := Aside0.mk hd_
      clear hc_ hd_ hb_ hk_
      refine hK.out _ _ ⟨(blk_cell BK_gl.out 0).trans rfl, (blk_cell BK_gl.out 1).trans rfl⟩ (fun hHeld => ?_)
      clear hK K
      refine norm_ (a' := ?_) ?_ ?_
      rotate_left
      · show Act.put _ (some 14) _ = _
        simp only [Act.put, List.setIfInBounds_toArray, List.set_cons_zero, List.set_cons_succ, i64_w, i32_w]
        rfl
      refine one_ (i := 7) (N := some 17) #[true, true, true, true, true, true, true, true, true, false, false, true, false] rfl rfl (one_of HT_.out (by kernel_rfl)) (by decide) (fun K hK => ?_)
      have HC1b := HC1
      have HBRb2 := HBR
      refine goes_ Try.func108 (by kernel_rfl) rfl #[.slice A1 ([] : List LA).length c1] (by rfl) rfl rfl (by (try simp only [List.map_toArray, List.map_cons, List.map_nil]); first | done | rfl) ?_
      with_reducible refine (ws_clone A1 c1 [] _ (ws_nilC _ _) (Nat.zero_le _) (Nat.zero_le _)).mono ?_
      rintro e w34 ⟨A3, c3, rfl, ho_, hb_⟩
      refine ⟨_, rfl, ?_⟩
      have HBb2 := HB
      have HSb2 := Aside0.mk (below_size hb_)
      have n_ := Aside0.mk (blk_below BK_gl.out hb_); clear BK_gl; have BK_gl := n_; clear n_
      have n_ := Aside0.mk (blk_below BK_gn.out hb_); clear BK_gn; have BK_gn := n_; clear n_
      have n_ := Aside0.mk (blk_below BK_gr.out hb_); clear BK_gr; have BK_gr := n_; clear n_
      have n_ := Aside0.mk (blk_below BK_go.out hb_); clear BK_go; have BK_go := n_; clear n_
      have n_ := Aside0.mk (HC1.out.below hb_); clear HC1; have HC1 := n_; clear n_
      have n_ := Aside0.mk (below_step HB.out hb_); clear HB; have HB := n_; clear n_
      have n_ := Aside0.mk (below_step HBR.out hb_); clear HBR; have HBR := n_; clear n_
      have HO2 := Aside0.mk ho_
      have HBs := Aside0.mk hb_
      clear ho_ hb_
      refine hK.out _ _ ⟨(blk_cell BK_gl.out 0).trans rfl, (blk_cell BK_gl.out 1).trans rfl⟩ (fun hHeld => ?_)
      clear hK K
      refine norm_ (a' := ?_) ?_ ?_
      rotate_left
      · show Act.put _ (some 17) _ = _
        simp only [Act.put, List.setIfInBounds_toArray, List.set_cons_zero, List.set_cons_succ, i64_w, i32_w]
        rfl
      refine one_ (i := 9) (N := some 19) #[true, true, true, true, true, true, true, true, true, true, false, true, false] rfl rfl (one_of HT_.out (by kernel_rfl)) (by decide) (fun K hK => ?_)
      refine goes_ Try.func107 (by kernel_rfl) rfl #[.slice A3 ([] : List LA).length c3, .func (.func 106) #[] #[.pointer (some ⟨gn, 0, none⟩)]] (by rfl) rfl rfl (by (try simp only [List.map_toArray, List.map_cons, List.map_nil]); first | done | rfl) ?_
      with_reducible refine (ws_del gn who ([] : List LA) A3 c3 _ _ _ HO2.out HBs.out (below_size HBs.out) BK_gn.out).mono ?_
      rintro e w35 ⟨A5, c5, rfl, hc_, hd_, hb_, hk_⟩
      refine ⟨_, rfl, ?_⟩
      have n_ := Aside0.mk ((hk_.2 _ (blk_lt BK_gl.out) (Nat.ne_of_lt (blk_lt BK_gl.out)) (Kd.R_ne HO2.out BK_gl.out (by decide))).trans BK_gl.out); clear BK_gl; have BK_gl := n_; clear n_
      have n_ := Aside0.mk ((hk_.2 _ (blk_lt BK_gn.out) (Nat.ne_of_lt (blk_lt BK_gn.out)) (Kd.R_ne HO2.out BK_gn.out (by decide))).trans BK_gn.out); clear BK_gn; have BK_gn := n_; clear n_
      have n_ := Aside0.mk ((hk_.2 _ (blk_lt BK_gr.out) (Nat.ne_of_lt (blk_lt BK_gr.out)) (Kd.R_ne HO2.out BK_gr.out (by decide))).trans BK_gr.out); clear BK_gr; have BK_gr := n_; clear n_
      have n_ := Aside0.mk ((hk_.2 _ (blk_lt BK_go.out) (Nat.ne_of_lt (blk_lt BK_go.out)) (Kd.R_ne HO2.out BK_go.out (by decide))).trans BK_go.out); clear BK_go; have BK_go := n_; clear n_
      clear HC1; have HC1 := Aside0.mk (HC1b.out.below hb_)
      clear HB; have HB := Aside0.mk (below_step HBb2.out hb_)
      clear HBR; have HBR := Aside0.mk (below_step HBRb2.out hb_)
      have HC2 := Aside0.mk hc_
      have HD2 := Aside0.mk hd_
      clear hc_ hd_ hb_ hk_
      refine hK.out _ _ ⟨(blk_cell BK_gl.out 0).trans rfl, (blk_cell BK_gl.out 1).trans rfl⟩ (fun hHeld => ?_)
      clear hK K
      refine norm_ (a' := ?_) ?_ ?_
      rotate_left
      · show Act.put _ (some 19) _ = _
        simp only [Act.put, List.setIfInBounds_toArray, List.set_cons_zero, List.set_cons_succ, i64_w, i32_w]
        rfl
      refine pure_ (i := 10) (N := some 20) (v := ?_) (a' := ?_) #[true, true, true, true, true, true, true, true, true, true, true, true, false] rfl rfl (any_of HT_.out (by kernel_rfl)) (fun _ _ _ h => h) (Or.inl ⟨by rfl, ?_⟩) ?_ ?_
      rotate_left
      · intro w'
        go_simp
        with_reducible rfl
      rotate_left
      · simp only [Act.put, List.setIfInBounds_toArray, List.set_cons_zero, List.set_cons_succ, i64_w, i32_w]
        rfl
      refine last_ (i := 12) (N := none) #[true, true, true, true, true, true, true, true, true, true, true, true, true] rfl rfl (one_of HT_.out (by kernel_rfl)) (by decide) (fun K hK => ?_)
      have hs0 : w35.cell? ⟨go, 0, none⟩ = some (.slice none 0 0) := (blk_cell BK_go.out 0).trans rfl
      have hs1 : w35.cell? ⟨go, 1, none⟩ = some (.slice none 0 0) := (blk_cell BK_go.out 1).trans rfl
      have hf0 := blk_frozen BK_go.out 0
      have hf1 := blk_frozen BK_go.out 1
      refine skip_ (w1 := ?_) (by rfl) rfl ?_ ?_
      rotate_left
      · go_simp
        rfl
      refine hK.out _ _ ?_
      clear hK K hHeld
      refine done_ (done_of HT_.out (by kernel_rfl)) ?_
      have n_ := Aside0.mk (blk_put (cs := #[.slice A4 (ws_rest who h).length c4, .slice none 0 0]) (blk_put BK_go.out 0 (.slice A4 (ws_rest who h).length c4) rfl) 1 (.slice A5 (ws_rest who []).length c5) rfl)
      have BKT : Aside0 (((w35.setCell ⟨go, 0, none⟩ (.slice A4 (ws_rest who h).length c4)).setCell ⟨go, 1, none⟩ (.slice A5 (ws_rest who []).length c5)).heap[go]? = some (.cells #[.slice A4 (ws_rest who h).length c4, .slice A5 0 c5] 53 (0, 0))) := n_
      clear n_
      have HCT := Aside0.mk ((HC1.out.set BK_go.out (by decide) 0 (.slice A4 (ws_rest who h).length c4)).set (blk_put (cs' := #[.slice A4 (ws_rest who h).length c4, .slice none 0 0]) BK_go.out 0 (.slice A4 (ws_rest who h).length c4) rfl) (by decide) 1 (.slice A5 (ws_rest who []).length c5))
      have BGT := Aside0.mk (blk_far (blk_far BK_gr.out (p := ⟨go, 0, none⟩) NE_gr_go.out (.slice A4 (ws_rest who h).length c4)) (p := ⟨go, 1, none⟩) NE_gr_go.out (.slice A5 (ws_rest who []).length c5))
      have HBT := Aside0.mk (below_set (j := 1) (v := .slice A5 (ws_rest who []).length c5) (below_set (j := 0) (v := .slice A4 (ws_rest who h).length c4) HB.out GE_go.out) GE_go.out)
      generalize (w35.setCell ⟨go, 0, none⟩ (.slice A4 (ws_rest who h).length c4)).setCell ⟨go, 1, none⟩ (.slice A5 (ws_rest who []).length c5) = wt at BKT HCT BGT HBT ⊢
      clear BK_go BK_gr HB hs0 hs1 hf0 hf1
      try go_wp2
      go_loopg [7, 8] 0 (fun gg s7 s8 wr => s7 = .int .i64 0 ∧ Aside0 (wr.heap[go]? = some (.cells #[.slice A4 (ws_rest who h).length c4, .slice A5 0 c5] 53 (0, 0))) ∧ Aside0 (ws_C wr A4 (ws_rest who h)) ∧ Aside0 (wr.heap[gr]? = some (.cells #[.slice none 0 0, .slice none 0 0] 53 (0, 0))) ∧ Aside0 (Below w.heap.size w wr))
      case atStart => exact ⟨rfl, BKT, HCT, BGT, HBT⟩
      case round =>
        obtain ⟨rfl, BK_go, HCW, BK_gr, HB⟩ := hrel
        have hc_go_0 : wr.cell? ⟨go, 0, none⟩ = some (.slice A4 (ws_rest who h).length c4) := (blk_cell BK_go.out 0).trans rfl
        have hc_go_1 : wr.cell? ⟨go, 1, none⟩ = some (.slice A5 0 c5) := (blk_cell BK_go.out 1).trans rfl
        go_wp2_with (go_at_call 71; refine calls_of_args (args' := #[.agg #[.slice A4 (ws_rest who h).length c4, .slice A5 ([] : List LA).length c5]]) (by rfl) ?_; (with_reducible refine (impl_Locks_copy.calls A4 c4 (ws_rest who h) A5 c5 [] (ws_rest who h) [] _ HCW.out.C HD1.out (ws_nilC _ _) (Nat.zero_le _) HCP.out).mono ?_); rintro e wz ⟨v0, v1, rfl, hs0_, hs1_, hb_⟩; obtain ⟨B0, b0, e0_⟩ := Kd.R_slice hs0_; subst e0_; obtain ⟨B1, b1, e1_⟩ := Kd.R_slice hs1_; have e1' : v1 = .slice B1 0 b1 := e1_; subst e1'; have HO := Aside0.mk hs0_; have n_ := Aside0.mk (blk_below BK_gr.out hb_); clear BK_gr; have BK_gr := n_; clear n_; have n_ := Aside0.mk (below_step HB.out hb_); clear HB; have HB := n_; clear n_; have hg0 : wz.cell? ⟨gr, 0, none⟩ = some (.slice none 0 0) := (blk_cell BK_gr.out 0).trans rfl; have hg1 : wz.cell? ⟨gr, 1, none⟩ = some (.slice none 0 0) := (blk_cell BK_gr.out 1).trans rfl; have hf0 := blk_frozen BK_gr.out 0; have hf1 := blk_frozen BK_gr.out 1; clear hs0_ hs1_ hb_ hc_go_0 hc_go_1 e1_)
        refine bodyPost_ret (results_cell_row rfl _ _ gr 53 #[.slice B0 (ws_rest who h).length b0, .slice B1 0 b1] (0, 0) _ rfl (by refine blk_put (cs := #[.slice B0 (ws_rest who h).length b0, .slice none 0 0]) ?_ 1 _ rfl; exact blk_put BK_gr.out 0 _ rfl) Try.underlying53 rfl (by kernel_rfl)) rfl ?_
        exact ⟨B0, b0, B1, b1, rfl, ((ws_C.of_R HO.out).set BK_gr.out (by decide) 0 _).set (blk_put BK_gr.out 0 _ rfl) (by decide) 1 _, (Kd.R_reads' HO.out).2.1, below_set (below_set HB.out GE_gr.out) GE_gr.out⟩
  · skip
    refine box_step (by rfl) (N := 6) rfl (cs := #[.slice none 0 0, .slice none 0 0]) (t := 53) (by first | (go_simp; done) | (go_simp; rfl)) ?_
    intro go hg_ w22 hbox_ hb_
    have n1_ := Aside0.mk (below_size HB.out); have GE_go : Aside0 (w.heap.size ≤ go) := ⟨by rw [hg_]; exact n1_.out⟩; clear n1_
    have NE_gl_go : Aside0 (gl ≠ go) := ⟨by rw [hg_]; exact Nat.ne_of_lt (blk_lt BK_gl.out)⟩; have NE_go_gl : Aside0 (go ≠ gl) := ⟨fun he_ => NE_gl_go.out he_.symm⟩
    have NE_gn_go : Aside0 (gn ≠ go) := ⟨by rw [hg_]; exact Nat.ne_of_lt (blk_lt BK_gn.out)⟩; have NE_go_gn : Aside0 (go ≠ gn) := ⟨fun he_ => NE_gn_go.out he_.symm⟩
    have NE_gr_go : Aside0 (gr ≠ go) := ⟨by rw [hg_]; exact Nat.ne_of_lt (blk_lt BK_gr.out)⟩; have NE_go_gr : Aside0 (go ≠ gr) := ⟨fun he_ => NE_gr_go.out he_.symm⟩
    have n_ := Aside0.mk (blk_below BK_gl.out hb_); clear BK_gl; have BK_gl := n_; clear n_
    have n_ := Aside0.mk (blk_below BK_gn.out hb_); clear BK_gn; have BK_gn := n_; clear n_
    have n_ := Aside0.mk (blk_below BK_gr.out hb_); clear BK_gr; have BK_gr := n_; clear n_
    have n_ := Aside0.mk (below_step HB.out hb_); clear HB; have HB := n_; clear n_
    have n_ := Aside0.mk (below_step HBR.out hb_); clear HBR; have HBR := n_; clear n_
    have BK_go := Aside0.mk hbox_
    clear hbox_ hb_ hg_
    refine hK.out _ _ ⟨(blk_cell BK_gl.out 0).trans rfl, (blk_cell BK_gl.out 1).trans rfl⟩ (fun hHeld => ?_)
    clear hK K
    refine norm_ (a' := ?_) ?_ ?_
    rotate_left
    · show Act.put _ (some 6) _ = _
      simp only [Act.put, List.setIfInBounds_toArray, List.set_cons_zero, List.set_cons_succ, i64_w, i32_w]
      rfl
    refine one_ (i := 2) (N := some 12) #[true, true, true, true, false, true, true, false, true, false, false, true, false] rfl rfl (one_of HT_.out (by kernel_rfl)) (by decide) (fun K hK => ?_)
    have HBRb0 := HBR
    refine goes_ Try.func108 (by kernel_rfl) rfl #[.slice A0 h.length c0] (by rfl) rfl rfl (by (try simp only [List.map_toArray, List.map_cons, List.map_nil]); first | done | rfl) ?_
    with_reducible refine (ws_clone A0 c0 h _ (Kd.C_below HR.out HBR.out) HC.out HLE.out).mono ?_
    rintro e w36 ⟨A2, c2, rfl, ho_, hb_⟩
    refine ⟨_, rfl, ?_⟩
    have HBb0 := HB
    have HSb0 := Aside0.mk (below_size hb_)
    have n_ := Aside0.mk (blk_below BK_gl.out hb_); clear BK_gl; have BK_gl := n_; clear n_
    have n_ := Aside0.mk (blk_below BK_gn.out hb_); clear BK_gn; have BK_gn := n_; clear n_
    have n_ := Aside0.mk (blk_below BK_gr.out hb_); clear BK_gr; have BK_gr := n_; clear n_
    have n_ := Aside0.mk (blk_below BK_go.out hb_); clear BK_go; have BK_go := n_; clear n_
    have n_ := Aside0.mk (below_step HB.out hb_); clear HB; have HB := n_; clear n_
    have n_ := Aside0.mk (below_step HBR.out hb_); clear HBR; have HBR := n_; clear n_
    have HO1 := Aside0.mk ho_
    have HBs := Aside0.mk hb_
    clear ho_ hb_
    refine hK.out _ _ ⟨(blk_cell BK_gl.out 0).trans rfl, (blk_cell BK_gl.out 1).trans rfl⟩ (fun hHeld => ?_)
    clear hK K
    refine norm_ (a' := ?_) ?_ ?_
    rotate_left
    · show Act.put _ (some 12) _ = _
      simp only [Act.put, List.setIfInBounds_toArray, List.set_cons_zero, List.set_cons_succ, i64_w, i32_w]
      rfl
    refine one_ (i := 4) (N := some 14) #[true, true, true, true, true, true, true, false, true, false, false, true, false] rfl rfl (one_of HT_.out (by kernel_rfl)) (by decide) (fun K hK => ?_)
    refine goes_ Try.func107 (by kernel_rfl) rfl #[.slice A2 h.length c2, .func (.func 106) #[] #[.pointer (some ⟨gn, 0, none⟩)]] (by rfl) rfl rfl (by (try simp only [List.map_toArray, List.map_cons, List.map_nil]); first | done | rfl) ?_
    with_reducible refine (ws_del gn who h A2 c2 _ _ _ HO1.out HBs.out (below_size HBs.out) BK_gn.out).mono ?_
    rintro e w37 ⟨A4, c4, rfl, hc_, hd_, hb_, hk_⟩
    refine ⟨_, rfl, ?_⟩
    have n_ := Aside0.mk ((hk_.2 _ (blk_lt BK_gl.out) (Nat.ne_of_lt (blk_lt BK_gl.out)) (Kd.R_ne HO1.out BK_gl.out (by decide))).trans BK_gl.out); clear BK_gl; have BK_gl := n_; clear n_
    have n_ := Aside0.mk ((hk_.2 _ (blk_lt BK_gn.out) (Nat.ne_of_lt (blk_lt BK_gn.out)) (Kd.R_ne HO1.out BK_gn.out (by decide))).trans BK_gn.out); clear BK_gn; have BK_gn := n_; clear n_
    have n_ := Aside0.mk ((hk_.2 _ (blk_lt BK_gr.out) (Nat.ne_of_lt (blk_lt BK_gr.out)) (Kd.R_ne HO1.out BK_gr.out (by decide))).trans BK_gr.out); clear BK_gr; have BK_gr := n_; clear n_
    have n_ := Aside0.mk ((hk_.2 _ (blk_lt BK_go.out) (Nat.ne_of_lt (blk_lt BK_go.out)) (Kd.R_ne HO1.out BK_go.out (by decide))).trans BK_go.out); clear BK_go; have BK_go := n_; clear n_
    clear HB; have HB := Aside0.mk (below_step HBb0.out hb_)
    clear HBR; have HBR := Aside0.mk (below_step HBRb0.out hb_)
    have HC1 := Aside0.mk hc_
    have HD1 := Aside0.mk hd_
    clear hc_ hd_ hb_ hk_
    refine hK.out _ _ ⟨(blk_cell BK_gl.out 0).trans rfl, (blk_cell BK_gl.out 1).trans rfl⟩ (fun hHeld => ?_)
    clear hK K
    refine norm_ (a' := ?_) ?_ ?_
    rotate_left
    · show Act.put _ (some 14) _ = _
      simp only [Act.put, List.setIfInBounds_toArray, List.set_cons_zero, List.set_cons_succ, i64_w, i32_w]
      rfl
    refine one_ (i := 7) (N := some 17) #[true, true, true, true, true, true, true, true, true, false, false, true, false] rfl rfl (one_of HT_.out (by kernel_rfl)) (by decide) (fun K hK => ?_)
    have HC1b := HC1
    have HBRb2 := HBR
    refine goes_ Try.func108 (by kernel_rfl) rfl #[.slice A1 ([] : List LA).length c1] (by rfl) rfl rfl (by (try simp only [List.map_toArray, List.map_cons, List.map_nil]); first | done | rfl) ?_
    with_reducible refine (ws_clone A1 c1 [] _ (ws_nilC _ _) (Nat.zero_le _) (Nat.zero_le _)).mono ?_
    rintro e w38 ⟨A3, c3, rfl, ho_, hb_⟩
    refine ⟨_, rfl, ?_⟩
    have HBb2 := HB
    have HSb2 := Aside0.mk (below_size hb_)
    have n_ := Aside0.mk (blk_below BK_gl.out hb_); clear BK_gl; have BK_gl := n_; clear n_
    have n_ := Aside0.mk (blk_below BK_gn.out hb_); clear BK_gn; have BK_gn := n_; clear n_
    have n_ := Aside0.mk (blk_below BK_gr.out hb_); clear BK_gr; have BK_gr := n_; clear n_
    have n_ := Aside0.mk (blk_below BK_go.out hb_); clear BK_go; have BK_go := n_; clear n_
    have n_ := Aside0.mk (HC1.out.below hb_); clear HC1; have HC1 := n_; clear n_
    have n_ := Aside0.mk (below_step HB.out hb_); clear HB; have HB := n_; clear n_
    have n_ := Aside0.mk (below_step HBR.out hb_); clear HBR; have HBR := n_; clear n_
    have HO2 := Aside0.mk ho_
    have HBs := Aside0.mk hb_
    clear ho_ hb_
    refine hK.out _ _ ⟨(blk_cell BK_gl.out 0).trans rfl, (blk_cell BK_gl.out 1).trans rfl⟩ (fun hHeld => ?_)
    clear hK K
    refine norm_ (a' := ?_) ?_ ?_
    rotate_left
    · show Act.put _ (some 17) _ = _
      simp only [Act.put, List.setIfInBounds_toArray, List.set_cons_zero, List.set_cons_succ, i64_w, i32_w]
      rfl
    refine one_ (i := 9) (N := some 19) #[true, true, true, true, true, true, true, true, true, true, false, true, false] rfl rfl (one_of HT_.out (by kernel_rfl)) (by decide) (fun K hK => ?_)
    refine goes_ Try.func107 (by kernel_rfl) rfl #[.slice A3 ([] : List LA).length c3, .func (.func 106) #[] #[.pointer (some ⟨gn, 0, none⟩)]] (by rfl) rfl rfl (by (try simp only [List.map_toArray, List.map_cons, List.map_nil]); first | done | rfl) ?_
    with_reducible refine (ws_del gn who ([] : List LA) A3 c3 _ _ _ HO2.out HBs.out (below_size HBs.out) BK_gn.out).mono ?_
    rintro e w39 ⟨A5, c5, rfl, hc_, hd_, hb_, hk_⟩
    refine ⟨_, rfl, ?_⟩
    have n_ := Aside0.mk ((hk_.2 _ (blk_lt BK_gl.out) (Nat.ne_of_lt (blk_lt BK_gl.out)) (Kd.R_ne HO2.out BK_gl.out (by decide))).trans BK_gl.out); clear BK_gl; have BK_gl := n_; clear n_
    have n_ := Aside0.mk ((hk_.2 _ (blk_lt BK_gn.out) (Nat.ne_of_lt (blk_lt BK_gn.out)) (Kd.R_ne HO2.out BK_gn.out (by decide))).trans BK_gn.out); clear BK_gn; have BK_gn := n_; clear n_
    have n_ := Aside0.mk ((hk_.2 _ (blk_lt BK_gr.out) (Nat.ne_of_lt (blk_lt BK_gr.out)) (Kd.R_ne HO2.out BK_gr.out (by decide))).trans BK_gr.out); clear BK_gr; have BK_gr := n_; clear n_
    have n_ := Aside0.mk ((hk_.2 _ (blk_lt BK_go.out) (Nat.ne_of_lt (blk_lt BK_go.out)) (Kd.R_ne HO2.out BK_go.out (by decide))).trans BK_go.out); clear BK_go; have BK_go := n_; clear n_
    clear HC1; have HC1 := Aside0.mk (HC1b.out.below hb_)
    clear HB; have HB := Aside0.mk (below_step HBb2.out hb_)
    clear HBR; have HBR := Aside0.mk (below_step HBRb2.out hb_)
    have HC2 := Aside0.mk hc_
    have HD2 := Aside0.mk hd_
    clear hc_ hd_ hb_ hk_
    refine hK.out _ _ ⟨(blk_cell BK_gl.out 0).trans rfl, (blk_cell BK_gl.out 1).trans rfl⟩ (fun hHeld => ?_)
    clear hK K
    refine norm_ (a' := ?_) ?_ ?_
    rotate_left
    · show Act.put _ (some 19) _ = _
      simp only [Act.put, List.setIfInBounds_toArray, List.set_cons_zero, List.set_cons_succ, i64_w, i32_w]
      rfl
    refine pure_ (i := 10) (N := some 20) (v := ?_) (a' := ?_) #[true, true, true, true, true, true, true, true, true, true, true, true, false] rfl rfl (any_of HT_.out (by kernel_rfl)) (fun _ _ _ h => h) (Or.inl ⟨by rfl, ?_⟩) ?_ ?_
    rotate_left
    · intro w'
      go_simp
      with_reducible rfl
    rotate_left
    · simp only [Act.put, List.setIfInBounds_toArray, List.set_cons_zero, List.set_cons_succ, i64_w, i32_w]
      rfl
    refine last_ (i := 12) (N := none) #[true, true, true, true, true, true, true, true, true, true, true, true, true] rfl rfl (one_of HT_.out (by kernel_rfl)) (by decide) (fun K hK => ?_)
    have hs0 : w39.cell? ⟨go, 0, none⟩ = some (.slice none 0 0) := (blk_cell BK_go.out 0).trans rfl
    have hs1 : w39.cell? ⟨go, 1, none⟩ = some (.slice none 0 0) := (blk_cell BK_go.out 1).trans rfl
    have hf0 := blk_frozen BK_go.out 0
    have hf1 := blk_frozen BK_go.out 1
    refine skip_ (w1 := ?_) (by rfl) rfl ?_ ?_
    rotate_left
    · go_simp
      rfl
    refine hK.out _ _ ?_
    clear hK K hHeld
    refine done_ (done_of HT_.out (by kernel_rfl)) ?_
    have n_ := Aside0.mk (blk_put (cs := #[.slice A4 (ws_rest who h).length c4, .slice none 0 0]) (blk_put BK_go.out 0 (.slice A4 (ws_rest who h).length c4) rfl) 1 (.slice A5 (ws_rest who []).length c5) rfl)
    have BKT : Aside0 (((w39.setCell ⟨go, 0, none⟩ (.slice A4 (ws_rest who h).length c4)).setCell ⟨go, 1, none⟩ (.slice A5 (ws_rest who []).length c5)).heap[go]? = some (.cells #[.slice A4 (ws_rest who h).length c4, .slice A5 0 c5] 53 (0, 0))) := n_
    clear n_
    have HCT := Aside0.mk ((HC1.out.set BK_go.out (by decide) 0 (.slice A4 (ws_rest who h).length c4)).set (blk_put (cs' := #[.slice A4 (ws_rest who h).length c4, .slice none 0 0]) BK_go.out 0 (.slice A4 (ws_rest who h).length c4) rfl) (by decide) 1 (.slice A5 (ws_rest who []).length c5))
    have BGT := Aside0.mk (blk_far (blk_far BK_gr.out (p := ⟨go, 0, none⟩) NE_gr_go.out (.slice A4 (ws_rest who h).length c4)) (p := ⟨go, 1, none⟩) NE_gr_go.out (.slice A5 (ws_rest who []).length c5))
    have HBT := Aside0.mk (below_set (j := 1) (v := .slice A5 (ws_rest who []).length c5) (below_set (j := 0) (v := .slice A4 (ws_rest who h).length c4) HB.out GE_go.out) GE_go.out)
    generalize (w39.setCell ⟨go, 0, none⟩ (.slice A4 (ws_rest who h).length c4)).setCell ⟨go, 1, none⟩ (.slice A5 (ws_rest who []).length c5) = wt at BKT HCT BGT HBT ⊢
    clear BK_go BK_gr HB hs0 hs1 hf0 hf1
    try go_wp2
    go_loopg [7, 8] 0 (fun gg s7 s8 wr => s7 = .int .i64 0 ∧ Aside0 (wr.heap[go]? = some (.cells #[.slice A4 (ws_rest who h).length c4, .slice A5 0 c5] 53 (0, 0))) ∧ Aside0 (ws_C wr A4 (ws_rest who h)) ∧ Aside0 (wr.heap[gr]? = some (.cells #[.slice none 0 0, .slice none 0 0] 53 (0, 0))) ∧ Aside0 (Below w.heap.size w wr))
    case atStart => exact ⟨rfl, BKT, HCT, BGT, HBT⟩
    case round =>
      obtain ⟨rfl, BK_go, HCW, BK_gr, HB⟩ := hrel
      have hc_go_0 : wr.cell? ⟨go, 0, none⟩ = some (.slice A4 (ws_rest who h).length c4) := (blk_cell BK_go.out 0).trans rfl
      have hc_go_1 : wr.cell? ⟨go, 1, none⟩ = some (.slice A5 0 c5) := (blk_cell BK_go.out 1).trans rfl
      go_wp2_with (go_at_call 71; refine calls_of_args (args' := #[.agg #[.slice A4 (ws_rest who h).length c4, .slice A5 ([] : List LA).length c5]]) (by rfl) ?_; (with_reducible refine (impl_Locks_copy.calls A4 c4 (ws_rest who h) A5 c5 [] (ws_rest who h) [] _ HCW.out.C HD1.out (ws_nilC _ _) (Nat.zero_le _) HCP.out).mono ?_); rintro e wz ⟨v0, v1, rfl, hs0_, hs1_, hb_⟩; obtain ⟨B0, b0, e0_⟩ := Kd.R_slice hs0_; subst e0_; obtain ⟨B1, b1, e1_⟩ := Kd.R_slice hs1_; have e1' : v1 = .slice B1 0 b1 := e1_; subst e1'; have HO := Aside0.mk hs0_; have n_ := Aside0.mk (blk_below BK_gr.out hb_); clear BK_gr; have BK_gr := n_; clear n_; have n_ := Aside0.mk (below_step HB.out hb_); clear HB; have HB := n_; clear n_; have hg0 : wz.cell? ⟨gr, 0, none⟩ = some (.slice none 0 0) := (blk_cell BK_gr.out 0).trans rfl; have hg1 : wz.cell? ⟨gr, 1, none⟩ = some (.slice none 0 0) := (blk_cell BK_gr.out 1).trans rfl; have hf0 := blk_frozen BK_gr.out 0; have hf1 := blk_frozen BK_gr.out 1; clear hs0_ hs1_ hb_ hc_go_0 hc_go_1 e1_)
      refine bodyPost_ret (results_cell_row rfl _ _ gr 53 #[.slice B0 (ws_rest who h).length b0, .slice B1 0 b1] (0, 0) _ rfl (by refine blk_put (cs := #[.slice B0 (ws_rest who h).length b0, .slice none 0 0]) ?_ 1 _ rfl; exact blk_put BK_gr.out 0 _ rfl) Try.underlying53 rfl (by kernel_rfl)) rfl ?_
      exact ⟨B0, b0, B1, b1, rfl, ((ws_C.of_R HO.out).set BK_gr.out (by decide) 0 _).set (blk_put BK_gr.out 0 _ rfl) (by decide) 1 _, (Kd.R_reads' HO.out).2.1, below_set (below_set HB.out GE_gr.out) GE_gr.out⟩
end

section
/-! ### impl_LockFree: function 31 -/
set_option maxHeartbeats 8000000 in
set_option maxRecDepth 100000 in
theorem ws_lockfree (A0 : Option Addr) (c0 : Nat) (h : List LA) (A1 : Option Addr) (c1 : Nat) (who : Int) (w : World) (hr0 : Kd.C k61 w A0 h.length h) (hc0 : h.length ≤ c0) (hlen : h.length ≤ 1000) (hall : lk_all h [] = true) (hw : 0 ≤ who ∧ who ≤ 3) :
    Calls Try.prog 31 #[.agg #[.slice A0 h.length c0, .slice A1 0 c1], .int .i64 who] w fun e w' => ∃ (B0 : Option Addr) (b0 : Nat) (B1 : Option Addr) (b1 : Nat), e = .returned (.agg #[.slice B0 (ws_rest who h).length b0, .slice B1 0 b1]) ∧ ws_C w' B0 (ws_rest who h) ∧ (ws_rest who h).length ≤ b0 ∧ Below w.heap.size w w' := by
  have hu53 := Try.underlying53
  have hu51 := Try.underlying51
  have HR := Aside0.mk hr0
  have HC := Aside0.mk hc0
  have HLE := Aside0.mk hlen
  have HLO : Aside0 (impl_LocksOk.f h [] = some true) := ⟨congrArg some hall⟩
  have HBE : Aside0 (impl_between.f who 0 3 = some true) := ⟨(lk_betw who 0 3).trans (congrArg some (decide_eq_true hw))⟩
  have HB := Aside0.mk (Below.refl w.heap.size w)
  have ST0 := True.intro
  clear hr0 hc0 hlen hall hw
  go_enter Try.func31, Try.ntmps31
  go_wp2_with (first | (have hck_ := ST4; clear hck_; go_at_call 77; (with_reducible refine (ws_release A0 c0 h A1 c1 who _ HR.out HC.out HLE.out).mono ?_); rintro e w5 ⟨B0, b0, B1, b1, rfl, ho_, hoc_, hb_⟩; clear hc_gl_0 hc_gl_1 hc_gr_0 hc_gr_1; have n_ := Aside0.mk (blk_below BK_gl.out hb_); clear BK_gl; have BK_gl : Aside0 (w5.heap[gl]? = some (.cells #[.slice A0 h.length c0, .slice A1 0 c1] 53 (0, 0))) := n_; clear n_; have n_ := Aside0.mk (blk_below BK_gr.out hb_); clear BK_gr; have BK_gr : Aside0 (w5.heap[gr]? = some (.cells #[.slice none 0 0, .slice none 0 0] 53 (0, 0))) := n_; clear n_; have n_ := Aside0.mk (Kd.C_below HR.out hb_); clear HR; have HR := n_; clear n_; have n_ := Aside0.mk (below_step HB.out hb_); clear HB; have HB := n_; clear n_; have HO := Aside0.mk ho_; have HOC := Aside0.mk hoc_; clear ho_ hoc_; have hc_gl_0 : w5.cell? ⟨gl, 0, none⟩ = some (.slice A0 h.length c0) := (blk_cell BK_gl.out 0).trans rfl; have hc_gl_1 : w5.cell? ⟨gl, 1, none⟩ = some (.slice A1 0 c1) := (blk_cell BK_gl.out 1).trans rfl; have hc_gr_0 : w5.cell? ⟨gr, 0, none⟩ = some (.slice none 0 0) := (blk_cell BK_gr.out 0).trans rfl; have hc_gr_1 : w5.cell? ⟨gr, 1, none⟩ = some (.slice none 0 0) := (blk_cell BK_gr.out 1).trans rfl; clear hb_; have ST5 := True.intro; have hf_gr_0 := blk_frozen BK_gr.out 0; have hf_gr_1 := blk_frozen BK_gr.out 1) | (have hck_ := ST3; clear hck_; go_at_call 76; (with_reducible refine (impl_between.calls who 0 3 true _ HBE.out).mono ?_); rintro e w4 ⟨rfl, hd_⟩; have hb_ := Drawn0.below hd_; clear hd_; clear hc_gl_0 hc_gl_1 hc_gr_0 hc_gr_1; have n_ := Aside0.mk (blk_below BK_gl.out hb_); clear BK_gl; have BK_gl : Aside0 (w4.heap[gl]? = some (.cells #[.slice A0 h.length c0, .slice A1 0 c1] 53 (0, 0))) := n_; clear n_; have n_ := Aside0.mk (blk_below BK_gr.out hb_); clear BK_gr; have BK_gr : Aside0 (w4.heap[gr]? = some (.cells #[.slice none 0 0, .slice none 0 0] 53 (0, 0))) := n_; clear n_; have n_ := Aside0.mk (Kd.C_below HR.out hb_); clear HR; have HR := n_; clear n_; have n_ := Aside0.mk (below_step HB.out hb_); clear HB; have HB := n_; clear n_; have hc_gl_0 : w4.cell? ⟨gl, 0, none⟩ = some (.slice A0 h.length c0) := (blk_cell BK_gl.out 0).trans rfl; have hc_gl_1 : w4.cell? ⟨gl, 1, none⟩ = some (.slice A1 0 c1) := (blk_cell BK_gl.out 1).trans rfl; have hc_gr_0 : w4.cell? ⟨gr, 0, none⟩ = some (.slice none 0 0) := (blk_cell BK_gr.out 0).trans rfl; have hc_gr_1 : w4.cell? ⟨gr, 1, none⟩ = some (.slice none 0 0) := (blk_cell BK_gr.out 1).trans rfl; clear hb_; have ST4 := True.intro) | (have hck_ := ST2; clear hck_; go_at_call 27; refine calls_of_args (args' := #[.agg #[.slice A0 h.length c0, .slice A1 ([] : List LA).length c1]]) (by rfl) ?_; (with_reducible refine (impl_LocksOk.calls A0 c0 h A1 c1 [] true _ HR.out HC.out (ws_nilC _ _) (Nat.zero_le _) HLO.out).mono ?_); rintro e w3 ⟨rfl, hb_⟩; clear hc_gl_0 hc_gl_1 hc_gr_0 hc_gr_1; have n_ := Aside0.mk (blk_below BK_gl.out hb_); clear BK_gl; have BK_gl : Aside0 (w3.heap[gl]? = some (.cells #[.slice A0 h.length c0, .slice A1 0 c1] 53 (0, 0))) := n_; clear n_; have n_ := Aside0.mk (blk_below BK_gr.out hb_); clear BK_gr; have BK_gr : Aside0 (w3.heap[gr]? = some (.cells #[.slice none 0 0, .slice none 0 0] 53 (0, 0))) := n_; clear n_; have n_ := Aside0.mk (Kd.C_below HR.out hb_); clear HR; have HR := n_; clear n_; have n_ := Aside0.mk (below_step HB.out hb_); clear HB; have HB := n_; clear n_; have hc_gl_0 : w3.cell? ⟨gl, 0, none⟩ = some (.slice A0 h.length c0) := (blk_cell BK_gl.out 0).trans rfl; have hc_gl_1 : w3.cell? ⟨gl, 1, none⟩ = some (.slice A1 0 c1) := (blk_cell BK_gl.out 1).trans rfl; have hc_gr_0 : w3.cell? ⟨gr, 0, none⟩ = some (.slice none 0 0) := (blk_cell BK_gr.out 0).trans rfl; have hc_gr_1 : w3.cell? ⟨gr, 1, none⟩ = some (.slice none 0 0) := (blk_cell BK_gr.out 1).trans rfl; clear hb_; have ST3 := True.intro) | (have hck_ := ST1; clear hck_; (with_reducible refine gate_dst (N := 4) rfl ?_); refine box_event ?hg (N := 4) ?hd (cs := #[.slice none 0 0, .slice none 0 0]) (t := 53) ?hr ?_; (case hd => rfl); (case hg => rfl); (case hr => first | (go_simp; done) | (go_simp; rfl)); intro gr hg_ w2 hbox_ hb_; have GE_gr : Aside0 (w.heap.size ≤ gr) := ⟨by rw [hg_]; exact below_size HB.out⟩; have NE_gl_gr : Aside0 (gl ≠ gr) := ⟨by rw [hg_]; exact Nat.ne_of_lt (blk_lt BK_gl.out)⟩; have NE_gr_gl : Aside0 (gr ≠ gl) := ⟨by rw [hg_]; exact Nat.ne_of_gt (blk_lt BK_gl.out)⟩; clear hc_gl_0 hc_gl_1; have n_ := Aside0.mk (blk_below BK_gl.out hb_); clear BK_gl; have BK_gl : Aside0 (w2.heap[gl]? = some (.cells #[.slice A0 h.length c0, .slice A1 0 c1] 53 (0, 0))) := n_; clear n_; have n_ := Aside0.mk (Kd.C_below HR.out hb_); clear HR; have HR := n_; clear n_; have n_ := Aside0.mk (below_step HB.out hb_); clear HB; have HB := n_; clear n_; have BK_gr := Aside0.mk hbox_; have hc_gl_0 : w2.cell? ⟨gl, 0, none⟩ = some (.slice A0 h.length c0) := (blk_cell BK_gl.out 0).trans rfl; have hc_gl_1 : w2.cell? ⟨gl, 1, none⟩ = some (.slice A1 0 c1) := (blk_cell BK_gl.out 1).trans rfl; have hc_gr_0 : w2.cell? ⟨gr, 0, none⟩ = some (.slice none 0 0) := (blk_cell BK_gr.out 0).trans rfl; have hc_gr_1 : w2.cell? ⟨gr, 1, none⟩ = some (.slice none 0 0) := (blk_cell BK_gr.out 1).trans rfl; clear hg_ hbox_ hb_; have ST2 := True.intro) | (have hck_ := ST0; clear hck_; (with_reducible refine gate_dst (N := 2) rfl ?_); refine box_event ?hg (N := 2) ?hd (cs := #[.slice A0 h.length c0, .slice A1 0 c1]) (t := 53) ?hr ?_; (case hd => rfl); (case hg => rfl); (case hr => first | (go_simp; done) | (go_simp; rfl)); intro gl hg_ w1 hbox_ hb_; have GE_gl : Aside0 (w.heap.size ≤ gl) := ⟨by rw [hg_]; exact below_size HB.out⟩; have n_ := Aside0.mk (Kd.C_below HR.out hb_); clear HR; have HR := n_; clear n_; have n_ := Aside0.mk (below_step HB.out hb_); clear HB; have HB := n_; clear n_; have BK_gl := Aside0.mk hbox_; have hc_gl_0 : w1.cell? ⟨gl, 0, none⟩ = some (.slice A0 h.length c0) := (blk_cell BK_gl.out 0).trans rfl; have hc_gl_1 : w1.cell? ⟨gl, 1, none⟩ = some (.slice A1 0 c1) := (blk_cell BK_gl.out 1).trans rfl; clear hg_ hbox_ hb_; have ST1 := True.intro))
  refine bodyPost_ret (results_cell_row rfl _ _ gr 53 #[.slice B0 (ws_rest who h).length b0, .slice B1 0 b1] (0, 0) _ rfl (by refine blk_put (cs := #[.slice B0 (ws_rest who h).length b0, .slice none 0 0]) ?_ 1 _ rfl; exact blk_put BK_gr.out 0 _ rfl) Try.underlying53 rfl (by kernel_rfl)) rfl ?_
  exact ⟨B0, b0, B1, b1, rfl, (HO.out.set BK_gr.out (by decide) 0 _).set (blk_put BK_gr.out 0 _ rfl) (by decide) 1 _, HOC.out, below_set (below_set HB.out GE_gr.out) GE_gr.out⟩
end

end Go.Proofs.Ytalhkihppcjanaa.X
