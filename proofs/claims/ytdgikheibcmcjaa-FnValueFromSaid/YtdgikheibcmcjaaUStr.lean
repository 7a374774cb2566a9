/- A further word for this session's prints: append([]byte, s...), s a string, as one step of a region of open order; a plain lemma. -/
import Derived.Test.YtdgikheibcmcjaaUMine
set_option linter.unusedVariables false
set_option linter.unusedSimpArgs false
namespace Go
theorem long_run_append_own_string {P : Program} (w : World) (base : Nat) (t u ty e : TypeId) (i : TypeInfo) (ht : P.underlying t = some (.slice e)) (hu : P.underlying u = some .string) (hi : P.info? e = some i) (hz : i.zero = some (.int .u8 0))
    (hsize : i.size = 1) (hby : i.bytes = 1) (v : Value) (n : Nat) (xs : List Value) (hown : w.ownsLong base e 1 v n xs) (s : ByteArray)
    (h63 : n + s.size ≤ maxLen) (hbytes : n + s.size ≤ 140737488355328) (hbase : base ≤ w.heap.size) :
    ∃ v' w', (Builtin.append_ #[t, u] ty #[v, .string s]).run P w = .ok v' w' ∧ w'.ownsLong base e 1 v' (n + s.size) (xs ++ Lib.strCells s) ∧ w.grownBy w' v.ownBlock := by
  rcases hown.2 with ⟨hv, hn⟩ | ⟨g, cap, cur, hv, hbg, hg, hnc, hcm, hcs, htake⟩
  · obtain ⟨v', w', hr, h1, h2, _⟩ := Lib.run_append_own_string (P := P) w base t u ty e i ht hu hi hz hsize hby v n xs ⟨hown.1, .inl ⟨hv, hn⟩⟩ s h63 hbytes hbase
    exact ⟨v', w', hr, long_of_own h1, h2⟩
  · have hxl : xs.length = n := by simpa using hown.1
    subst hv
    by_cases hroom : n + s.size ≤ cap
    · have hr := Lib.run_append_room_string (P := P) w t u ty e i ht hu hi hsize g n cap cur hg s hroom (by omega)
      have hq := long_room (news := Lib.strCells s) (m := s.size) hg hbg hown.1 htake (by rw [Lib.strCells_length, Nat.mul_one]) hroom hcm hcs
      rw [Nat.mul_one, Lib.strCells_length] at hq
      exact ⟨_, _, hr, hq.1, hq.2⟩
    · have hr := Lib.run_append_grow_string (P := P) w t u ty e i (.int .u8 0) ht hu hi hz ⟨g, 0, none⟩ n cap xs (by rw [hsize]; exact hown.1) (hown.cells (g := g) rfl) s (by omega) (by simp only [maxLen] at h63; omega) (by rw [hby]; exact growslice_fits (by omega) (by omega))
      have hq := long_grown (w := w) (base := base) (e := e) (size := 1) (z := .int .u8 0) rfl n s.size cap xs (Lib.strCells s) hown.1 (by rw [Lib.strCells_length, Nat.mul_one]) h63 hbase (Value.ownBlock (.slice (some ⟨g, 0, none⟩) n cap))
      exact ⟨_, _, hr, hq.1, hq.2⟩
end Go
namespace Go.Proofs.YtdgikheibcmcjaaV.PrintWords
open Go.RowKit
theorem print_append_str_step {P : Program} {ops : Array Oper} {o : Oper} {a : Act} {Q : Exit → Act → World → Prop} {Kc : Act → World → Prop} {w0 W : World} (base : Nat) (hw : Region.wanted o (yielded ops a.tmps) = true) (s x : Operand) (t u e : TypeId)
    (ho : o.op = .call { callee := .builtin .append, args := #[s, x], argTypes := #[t, u] })
    (ht : P.underlying t = some (.slice e)) (hu : P.underlying u = some .string) (hinfo : (P.info? e).map (fun i => (i.zero, i.size, i.bytes)) = some (some (.int .u8 0), 1, 1))
    (v : Value) (xs : List Int) (y : ByteArray) (hs : a.eval s = v) (hx : a.eval x = .string y)
    (HO : W.ownsLong base e 1 v xs.length (nums .u8 xs)) (HB : Below base w0 W) (hbase : base ≤ W.heap.size) (hl : xs.length + y.size ≤ 140737488355328)
    (h : ∀ v1 w1, w1.ownsLong base e 1 v1 (xs ++ bytesOf y).length (nums .u8 (xs ++ bytesOf y)) → Below base w0 w1 → W.grownBy w1 v.ownBlock → Kc (a.put o.dst v1) w1) :
    if Region.wanted o (yielded ops a.tmps) = true then Oper.wp P o a W Kc Q else Kc (a.put o.dst undef) W := by
  obtain ⟨i0, hi, hzz⟩ := Option.map_eq_some_iff.1 hinfo
  simp only [Prod.mk.injEq] at hzz
  obtain ⟨hz0, hz1, hz2⟩ := hzz
  obtain ⟨v1, w1, hr, h2, h3⟩ := long_run_append_own_string (P := P) W base t u o.type e i0 ht hu hi hz0 hz1 hz2 v xs.length (nums .u8 xs) HO y (by simp only [maxLen]; omega) hl hbase
  have hl2 : (xs ++ bytesOf y).length = xs.length + y.size := by rw [List.length_append, bytesOf_length]
  have hc : nums .u8 (xs ++ bytesOf y) = nums .u8 xs ++ Lib.strCells y := by
    rw [nums_append]
    congr 1
    simp [nums, bytesOf, Lib.strCells]
  have hk := h v1 w1 (by rw [hl2, hc]; exact h2) (HB.grown h3 hbase (own_base HO)) h3
  rw [if_pos hw]
  unfold Oper.wp execOp
  simp only [ho, resolve, invoke, builtin, Sem.run_bind, Sem.run_pure, Result.andThen_ok, List.map_toArray, List.map_cons, List.map_nil, hs, hx, hr]
  exact hk
/-- A block that these bytes lie in, whatever it bears behind them. -/
def Lies (w : World) (g : Nat) (xs : List Int) : Prop := ∃ o, w.heap[g]? = some o ∧ ∀ W' : World, W'.heap[g]? = some o → Kd.C (Kd.int .u8) W' (some ⟨g, 0, none⟩) xs.length xs
theorem Lies.now {w : World} {g : Nat} {xs : List Int} (h : Lies w g xs) : Kd.C (Kd.int .u8) w (some ⟨g, 0, none⟩) xs.length xs := by obtain ⟨o, h1, h2⟩ := h; exact h2 _ h1
theorem Lies.below {w w1 : World} {g : Nat} {xs : List Int} (h : Lies w g xs) (hb : Below w.heap.size w w1) : Lies w1 g xs := by obtain ⟨o, h1, h2⟩ := h; exact ⟨o, blk_below h1 hb, h2⟩
theorem Lies.grown {w w1 : World} {g : Nat} {xs : List Int} {row : Option Nat} (h : Lies w g xs) (hg : w.grownBy w1 row) (hne : some g ≠ row) : Lies w1 g xs := by obtain ⟨o, h1, h2⟩ := h; exact ⟨o, blk_grown h1 hg hne, h2⟩
theorem reads_of_cells {W : World} {g : Nat} {e : TypeId} {fz : Nat × Nat} {cs : Array Value} {xs : List Int} (hm : xs.length ≤ 9223372036854775807) (h : W.heap[g]? = some (Obj.cells cs e fz)) (hc : ∀ (j : Nat) (x : Int), xs[j]? = some x → cs[j]? = some (Value.int IntKind.u8 x)) : Kd.C (Kd.int .u8) W (some ⟨g, 0, none⟩) xs.length xs := by
  refine ⟨rfl, hm, fun _ => ⟨_, rfl, fun j p hj => ⟨[Value.int IntKind.u8 p], rfl, rfl, fun i u hu => ?_⟩⟩⟩
  cases i with
  | succ i => simp at hu
  | zero =>
    simp only [List.getElem?_cons_zero, Option.some.injEq] at hu
    subst hu
    have h1 : (Kd.int IntKind.u8).sz = 1 := rfl
    have h2 : (⟨g, 0, none⟩ : Addr).add (j * (Kd.int IntKind.u8).sz + 0) = ⟨g, j, none⟩ := by rw [h1]; simp [Addr.add]; intro h0; exact h0.symm
    rw [h2, cell_of_row W g j cs e fz h]
    exact hc j p hj
theorem lies_lit_step {P : Program} {ops : Array Oper} {o : Oper} {a : Act} {Q : Exit → Act → World → Prop} {Kc : Act → World → Prop} {W : World} {N : Tmp} (hw : Region.wanted o (yielded ops a.tmps) = true) (_hd : o.dst = some N) {x : Int} {e : TypeId}
    (hrun : (execOp a.eval o).run P W = .ok (.value (.slice (some ⟨W.heap.size, 0, none⟩) 1 1)) (W.alloc (.cells #[.int .u8 x] e)))
    (h : ∀ g w1, Lies w1 g [x] → g = W.heap.size → Below W.heap.size W w1 → Kc (a.put o.dst (.slice (some ⟨g, 0, none⟩) 1 1)) w1) :
    if Region.wanted o (yielded ops a.tmps) = true then Oper.wp P o a W Kc Q else Kc (a.put o.dst undef) W := by
  refine event_step hw hrun (h _ _ ⟨_, blk_new W _, fun W' hW => ?_⟩ rfl (below_alloc (Below.refl _ _) _))
  refine reads_of_cells (by simp) hW (fun j y hj => ?_)
  cases j with
  | zero => simp only [List.getElem?_cons_zero, Option.some.injEq] at hj; subst hj; rfl
  | succ j => simp at hj
theorem lies_conv_step {P : Program} {ops : Array Oper} {o : Oper} {a : Act} {Q : Exit → Act → World → Prop} {Kc : Act → World → Prop} {W : World} {N : Tmp} (hw : Region.wanted o (yielded ops a.tmps) = true) (_hd : o.dst = some N) (t u e : TypeId) (x : Operand)
    (ho : o.op = .convert u t x) (hu : P.underlying u = some .string) (ht : P.underlying t = some (.slice e)) (he : P.underlying e = some (.int .u8)) (s : ByteArray) (hx : a.eval x = .string s) (hs : s.size ≤ 9223372036854775807)
    (h : ∀ g c w1, Lies w1 g (bytesOf s) → g = W.heap.size → Below W.heap.size W w1 → Kc (a.put o.dst (.slice (some ⟨g, 0, none⟩) (bytesOf s).length c)) w1) :
    if Region.wanted o (yielded ops a.tmps) = true then Oper.wp P o a W Kc Q else Kc (a.put o.dst undef) W := by
  have hr := run_bytes_of_string (P := P) W u t e s hu ht he
  have hlen : (bytesOf s).length = s.size := bytesOf_length s
  have hk := h W.heap.size (grownCap W s.size 0 e) _ ⟨_, blk_new W.drew (.cells (bytesRow s (grownCap W s.size 0 e)) e ((bytesRow s (grownCap W s.size 0 e)).size, (bytesRow s (grownCap W s.size 0 e)).size + 1)), fun W' hW => ?_⟩ rfl (below_alloc (below_drew (Below.refl _ _)) _)
  · rw [hlen] at hk
    refine event_step hw ?_ hk
    simp only [execOp, ho, hx, Sem.run_bind, hr, Result.andThen_ok, Sem.run_pure]
  · refine reads_of_cells (by rw [hlen]; exact hs) hW (fun j y hj => ?_)
    have hj2 : j < s.data.size := by
      have := (List.getElem?_eq_some_iff.1 hj).1
      rw [hlen] at this
      exact this
    unfold bytesRow
    rw [Array.getElem?_append_left (by rw [Array.size_map]; exact hj2)]
    simp only [bytesOf, List.getElem?_map, Array.getElem?_toList] at hj
    rw [Array.getElem?_map]
    cases hd : s.data[j]? with
    | none => rw [hd] at hj; simp at hj
    | some b => rw [hd] at hj; simp only [Option.map_some, Option.some.injEq] at hj ⊢; rw [hj]
end Go.Proofs.YtdgikheibcmcjaaV.PrintWords
