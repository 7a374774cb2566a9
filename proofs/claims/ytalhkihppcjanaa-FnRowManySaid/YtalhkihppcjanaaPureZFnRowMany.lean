/- Rows are counted in parts, and all counts of each row once are all rows; no condition. -/
import Derived.Test.YtalhkihppcjanaaUMore
import Derived.Test.YtalhkihppcjanaaUX0
import Derived.Test.YtalhkihppcjanaaZFnRowMany8
set_option linter.unusedVariables false
set_option linter.unusedSimpArgs false
namespace Go.Proofs.Ytalhkihppcjanaa.Pure
open Go.RowKit Go.Proofs.Ytalhkihppcjanaa.X Go.Proofs.YtalhkihppcjanaaV.PrintWords Go.Proofs.YtalhkihppcjanaaV.PrintLast Go.Proofs.YtalhkihppcjanaaV.PrintMore

theorem w64 {n : Int} (h : -9223372036854775808 ≤ n ∧ n ≤ 9223372036854775807) : wrap64 n = n := by unfold wrap64; omega
theorem xor_range (a b : Int) (ha : 0 ≤ a) (ha2 : a < 4294967296) (hb : 0 ≤ b) (hb2 : b < 4294967296) : 0 ≤ Go.bits .xor .i64 a b ∧ Go.bits .xor .i64 a b < 4294967296 := by
  obtain ⟨x, rfl⟩ := Int.eq_ofNat_of_zero_le ha
  obtain ⟨y, rfl⟩ := Int.eq_ofNat_of_zero_le hb
  have hx : x < 2 ^ 32 := by omega
  have hy : y < 2 ^ 32 := by omega
  have h1 : x % 2 ^ IntKind.i64.bits = x := Nat.mod_eq_of_lt (Nat.lt_of_lt_of_le hx (by decide))
  have h2 : y % 2 ^ IntKind.i64.bits = y := Nat.mod_eq_of_lt (Nat.lt_of_lt_of_le hy (by decide))
  have hz : x ^^^ y < 2 ^ 32 := Nat.xor_lt_two_pow hx hy
  have e : Go.bits .xor .i64 (x : Int) (y : Int) = ((x ^^^ y : Nat) : Int) := by
    simp only [Go.bits, BitVec.ofInt_natCast, BitVec.toNat_xor, BitVec.toNat_ofNat, h1, h2]
    rw [IntKind.wrap_i64]
    omega
  rw [e]
  omega
/-- At most 2000 bytes. -/
def Bytes (s : List Int) : Prop := s.length ≤ 2000 ∧ ∀ x ∈ s, 0 ≤ x ∧ x ≤ 255
theorem rd_byte {s : List Int} (hs : Bytes s) (i : Int) : 0 ≤ rd s i ∧ rd s i ≤ 255 := by
  unfold rd
  rw [List.getD_eq_getElem?_getD]
  cases h : s[i.toNat]? with
  | none => simp
  | some x => exact hs.2 x (List.mem_of_getElem? h)
theorem tmod_range {a b : Int} (ha : 0 ≤ a) (hb : 0 < b) : 0 ≤ Int.tmod a b ∧ Int.tmod a b < b := by
  rw [Int.tmod_eq_emod_of_nonneg ha]
  exact ⟨Int.emod_nonneg a (by omega), Int.emod_lt_of_pos a hb⟩
theorem pick_ok {s : List Int} (hs : Bytes s) (p n : Int) (hp : 0 ≤ p) (hp2 : p ≤ 1000000) (hn2 : n ≤ 1000000) :
    ∃ r, (∀ k, 1 ≤ k → spec_l20Rd_pick.f k s p n = some (r, p + 1)) ∧ 0 ≤ r ∧ (1 ≤ n → r < n) ∧ (n < 1 → r = 0) := by
  have e1 : wrap64 (p + 1) = p + 1 := w64 (by omega)
  have e2 : wrap64 (p + 1 - 1) = p := by rw [w64 (by omega)]; omega
  by_cases hn : n < 1
  · refine ⟨0, fun k hk => ?_, Int.le_refl _, fun h => by omega, fun _ => rfl⟩
    obtain ⟨k, rfl⟩ : ∃ m, k = m + 1 := ⟨k - 1, by omega⟩
    unfold spec_l20Rd_pick.f
    rw [if_pos hn, e1]
    simp only [spec_l20Rd_pick.j0]
    rw [if_pos (by decide)]
  by_cases hl : (s.length : Int) = 0
  · refine ⟨0, fun k hk => ?_, Int.le_refl _, fun h => by omega, fun _ => rfl⟩
    obtain ⟨k, rfl⟩ : ∃ m, k = m + 1 := ⟨k - 1, by omega⟩
    unfold spec_l20Rd_pick.f
    rw [if_neg hn, e1, beq_iff_eq.2 hl]
    simp only [spec_l20Rd_pick.j0]
    rw [if_pos (by decide)]
  have hl1 : ((s.length : Int) == 0) = false := by rw [beq_eq_false_iff_ne]; exact hl
  have hl2 : 0 < (s.length : Int) := by omega
  by_cases hlt : p < (s.length : Int)
  · have hr := rd_byte hs p
    have e3 : wrap64 (rd s p) = rd s p := w64 (by omega)
    have ht := tmod_range hr.1 (show (0 : Int) < n by omega)
    refine ⟨Int.tmod (rd s p) n, fun k hk => ?_, ht.1, fun _ => ht.2, fun h => by omega⟩
    obtain ⟨k, rfl⟩ : ∃ m, k = m + 1 := ⟨k - 1, by omega⟩
    unfold spec_l20Rd_pick.f
    rw [if_neg hn, e1, hl1]
    simp only [spec_l20Rd_pick.j0]
    rw [if_neg (by decide), e2, if_pos hlt, if_pos hp, if_neg (by omega), e3]
  · have hm1 := tmod_range hp hl2
    have e4 : wrap64 (wrap64 (p * 7) + 3) = p * 7 + 3 := by rw [w64 (n := p * 7) (by omega)]; exact w64 (by omega)
    have hm2 := tmod_range (show 0 ≤ p * 7 + 3 by omega) hl2
    have hd : 0 ≤ Int.tdiv p (s.length : Int) ∧ Int.tdiv p (s.length : Int) ≤ 1000000 := by
      rw [Int.tdiv_eq_ediv_of_nonneg hp]
      exact ⟨Int.ediv_nonneg hp (by omega), Int.le_trans (Int.ediv_le_self _ hp) hp2⟩
    have hb1 := rd_byte hs (Int.tmod p (s.length : Int))
    have hb2 := rd_byte hs (Int.tmod (p * 7 + 3) (s.length : Int))
    obtain ⟨b1, g1⟩ : ∃ b, rd s (Int.tmod p (s.length : Int)) = b := ⟨_, rfl⟩
    obtain ⟨b2, g2⟩ : ∃ b, rd s (Int.tmod (p * 7 + 3) (s.length : Int)) = b := ⟨_, rfl⟩
    obtain ⟨d, g3⟩ : ∃ d, Int.tdiv p (s.length : Int) = d := ⟨_, rfl⟩
    rw [g1] at hb1
    rw [g2] at hb2
    rw [g3] at hd
    have eX : wrap64 (wrap64 (wrap64 (wrap64 (wrap64 b1 * 131) + wrap64 (wrap64 b2 * 1117)) + wrap64 (p * 29)) + wrap64 (wrap64 d * 53)) = b1 * 131 + b2 * 1117 + p * 29 + d * 53 := by
      unfold wrap64
      omega
    have hX : 0 ≤ b1 * 131 + b2 * 1117 + p * 29 + d * 53 ∧ b1 * 131 + b2 * 1117 + p * 29 + d * 53 < 4294967296 := by omega
    obtain ⟨x, g4⟩ : ∃ x, b1 * 131 + b2 * 1117 + p * 29 + d * 53 = x := ⟨_, rfl⟩
    rw [g4] at eX hX
    have eY : wrap64 (Int.tdiv x 64) = x / 64 := by
      rw [Int.tdiv_eq_ediv_of_nonneg hX.1]
      exact w64 (by omega)
    have hxr := xor_range x (x / 64) hX.1 hX.2 (by omega) (by omega)
    have ht := tmod_range hxr.1 (show (0 : Int) < n by omega)
    refine ⟨Int.tmod (Go.bits .xor .i64 x (x / 64)) n, fun k hk => ?_, ht.1, fun _ => ht.2, fun h => by omega⟩
    obtain ⟨k, rfl⟩ : ∃ m, k = m + 1 := ⟨k - 1, by omega⟩
    unfold spec_l20Rd_pick.f
    rw [if_neg hn, e1, hl1]
    simp only [spec_l20Rd_pick.j0]
    rw [if_neg (by decide), e2, if_neg hlt, if_neg hl, if_pos hm1.1, if_pos hm1.2, e4, if_pos hm2.1, if_pos hm2.2, if_neg (by omega), g1, g2, g3, eX, eY]
theorem odd_ok {s : List Int} (hs : Bytes s) (p n : Int) (hp : 0 ≤ p) (hp2 : p ≤ 1000000) (hn2 : n ≤ 1000000) :
    ∃ b p', (∀ k, 1 ≤ k → spec_l20Rd_odd.f k s p n = some (b, p')) ∧ 0 ≤ p' ∧ p' ≤ p + 1 ∧ (n ≤ 0 → b = false) := by
  by_cases hn : n > 0
  · obtain ⟨r, hr, _⟩ := pick_ok hs p n hp hp2 hn2
    refine ⟨r == wrap64 (n - 1), p + 1, fun k hk => ?_, by omega, Int.le_refl _, fun h => by omega⟩
    unfold spec_l20Rd_odd.f
    rw [if_pos hn, hr k hk]
    rfl
  · refine ⟨false, p, fun k hk => ?_, hp, by omega, fun _ => rfl⟩
    unfold spec_l20Rd_odd.f
    rw [if_neg hn]
theorem bytes_take {l : List Int} (h : ∀ x ∈ l, (Lit.int .u8 x).wf = true) (n : Nat) (hn : n ≤ 2000) : Bytes (l.take n) := by
  refine ⟨by rw [List.length_take]; omega, fun x hx => ?_⟩
  have := h x (List.mem_of_mem_take hx)
  simp [Lit.wf, IntKind.min, IntKind.max, IntKind.signed, IntKind.bits] at this
  omega
theorem bytes_of {l : List Int} (h : ∀ x ∈ l, (Lit.int .u8 x).wf = true) (hn : l.length ≤ 2000) : Bytes l := by
  have := bytes_take h 2000 (Nat.le_refl _)
  rwa [List.take_of_length_le hn] at this

end Go.Proofs.Ytalhkihppcjanaa.Pure
set_option linter.unusedVariables false
set_option linter.unusedSimpArgs false
namespace Go.Proofs.Ytalhkihppcjanaa.Pure
open Go.RowKit Go.Proofs.Ytalhkihppcjanaa.X Go.Proofs.YtalhkihppcjanaaV.PrintWords Go.Proofs.YtalhkihppcjanaaV.PrintLast Go.Proofs.YtalhkihppcjanaaV.PrintMore

theorem size_app (a b : ByteArray) : (a ++ b).size = a.size + b.size := ByteArray.size_append
theorem strOf_one (x : Int) : (strOfNums [x]).size = 1 := rfl
def Some4 (g : Nat → Option (Int × Int × ByteArray × Int)) (K : Nat) (p b : Int) : Prop :=
  ∃ t n s p', (∀ k, K ≤ k → g k = some (t, n, s, p')) ∧ p ≤ p' ∧ p' ≤ b ∧ s.size ≤ 40
theorem draw3 {l : List Int} (hs : Bytes l) (n0 p t n : Int) (s : ByteArray) (hn0 : n0 ≤ 1000) (hp : 0 ≤ p) (hp2 : p ≤ 100000) (hz : s.size ≤ 20) :
    Some4 (fun k => spec_l20Value.j3 k n0 l p t n s) 2 p (p + 3) := by
  obtain ⟨b, p1, hb, h0, h1, _⟩ := odd_ok hs p n0 hp (by omega) (by omega)
  have hp1 : p ≤ p1 := by
    have := hb 1 (by decide)
    unfold spec_l20Rd_odd.f at this
    by_cases hn : n0 > 0
    · rw [if_pos hn] at this
      obtain ⟨r, hr, _⟩ := pick_ok hs p n0 hp (by omega) (by omega)
      rw [hr 1 (by decide)] at this
      simp only [Option.bind_some, Option.some.injEq, Prod.mk.injEq] at this
      omega
    · rw [if_neg hn] at this
      simp only [Option.some.injEq, Prod.mk.injEq] at this
      omega
  cases b with
  | false =>
    refine ⟨t, n, s, p1, fun k hk => ?_, hp1, by omega, by omega⟩
    obtain ⟨k, rfl⟩ : ∃ m, k = m + 1 := ⟨k - 1, by omega⟩
    simp only [spec_l20Value.j3]
    rw [hb k (by omega)]
    rfl
  | true =>
    obtain ⟨r, hr, r0, r1, _⟩ := pick_ok hs p1 4 h0 (by omega) (by decide)
    have r1 := r1 (by decide)
    obtain ⟨r2, hr2, _⟩ := pick_ok hs (p1 + 1) 7 (by omega) (by omega) (by decide)
    have e7 : (⟨#[97, 98, 99, 100, 101, 102, 103]⟩ : ByteArray).size = 7 := rfl
    have e1 : (⟨#[65]⟩ : ByteArray).size = 1 := rfl
    have hu : ∀ k, 1 ≤ k → spec_l20Value.j3 (k + 1) n0 l p t n s = if r = 0 then some (t, 10000, s, p1 + 1) else if r = 1 then some (t, n, s ++ (⟨#[97, 98, 99, 100, 101, 102, 103]⟩ : ByteArray), p1 + 1) else if r = 2 then some (wrap64 (r2 - 1), n, s, p1 + 1 + 1) else some (t, n, s ++ (⟨#[65]⟩ : ByteArray), p1 + 1) := by
      intro k hk
      simp only [spec_l20Value.j3]
      rw [hb k hk]
      simp only [Option.bind_some, if_true]
      rw [hr k hk]
      simp only [Option.bind_some]
      rw [hr2 k hk, if_pos (show s.size + 7 ≤ 9223372036854775807 by omega), if_pos (show s.size + 1 ≤ 9223372036854775807 by omega)]
      simp only [Option.bind_some]
    have hg : ∀ q : Int × Int × ByteArray × Int, (∀ k, 1 ≤ k → spec_l20Value.j3 (k + 1) n0 l p t n s = some q) → p ≤ q.2.2.2 → q.2.2.2 ≤ p + 3 → q.2.2.1.size ≤ 40 → Some4 (fun k => spec_l20Value.j3 k n0 l p t n s) 2 p (p + 3) := by
      intro q hq ha hb hc
      refine ⟨q.1, q.2.1, q.2.2.1, q.2.2.2, fun k hk => ?_, ha, hb, hc⟩
      obtain ⟨k, rfl⟩ : ∃ m, k = m + 1 := ⟨k - 1, by omega⟩
      exact hq k (by omega)
    by_cases c0 : r = 0
    · exact hg (t, 10000, s, p1 + 1) (fun k hk => by rw [hu k hk, if_pos c0]) (by show p ≤ p1 + 1; omega) (by show p1 + 1 ≤ p + 3; omega) (by show s.size ≤ 40; omega)
    by_cases c1 : r = 1
    · exact hg (t, n, s ++ (⟨#[97, 98, 99, 100, 101, 102, 103]⟩ : ByteArray), p1 + 1) (fun k hk => by rw [hu k hk, if_neg c0, if_pos c1]) (by show p ≤ p1 + 1; omega) (by show p1 + 1 ≤ p + 3; omega) (by show (s ++ _).size ≤ 40; rw [size_app, e7]; omega)
    by_cases c2 : r = 2
    · exact hg (wrap64 (r2 - 1), n, s, p1 + 1 + 1) (fun k hk => by rw [hu k hk, if_neg c0, if_neg c1, if_pos c2]) (by show p ≤ p1 + 1 + 1; omega) (by show p1 + 1 + 1 ≤ p + 3; omega) (by show s.size ≤ 40; omega)
    · exact hg (t, n, s ++ (⟨#[65]⟩ : ByteArray), p1 + 1) (fun k hk => by rw [hu k hk, if_neg c0, if_neg c1, if_neg c2]) (by show p ≤ p1 + 1; omega) (by show p1 + 1 ≤ p + 3; omega) (by show (s ++ _).size ≤ 40; rw [size_app, e1]; omega)
theorem draw_text {l : List Int} (hs : Bytes l) (n0 t n : Int) (hn0 : n0 ≤ 1000) (d : Nat) : ∀ (p : Int) (s : ByteArray), 0 ≤ p → p + d ≤ 99000 → d ≤ 10 → s.size + d ≤ 20 →
    Some4 (fun k => spec_l20Value.l0 k n0 (d : Int) l p t n s) (d + 3) p (p + d + 3) := by
  induction d with
  | zero =>
    intro p s hp hp2 _ hz
    obtain ⟨t', n', s', p', hk', h1, h2, h3⟩ := draw3 hs n0 p t n s hn0 hp (by omega) (by omega)
    refine ⟨t', n', s', p', fun k hk => ?_, h1, by omega, h3⟩
    obtain ⟨k, rfl⟩ : ∃ m, k = m + 1 := ⟨k - 1, by omega⟩
    simp only [spec_l20Value.l0]
    rw [if_neg (by decide)]
    exact hk' k (by omega)
  | succ d ih =>
    intro p s hp hp2 hd hz
    obtain ⟨r, hr, _⟩ := pick_ok hs p 3 hp (by omega) (by decide)
    have hsz : (s ++ strOfNums [(wrap64 (97 + r)) % 256]).size = s.size + 1 := by rw [size_app, strOf_one]
    obtain ⟨t', n', s', p', hk', h1, h2, h3⟩ := ih (p + 1) (s ++ strOfNums [(wrap64 (97 + r)) % 256]) (by omega) (by omega) (by omega) (by omega)
    refine ⟨t', n', s', p', fun k hk => ?_, by omega, by omega, h3⟩
    obtain ⟨k, rfl⟩ : ∃ m, k = m + 1 := ⟨k - 1, by omega⟩
    simp only [spec_l20Value.l0]
    rw [if_pos (by omega), hr k (by omega)]
    simp only [Option.bind_some]
    rw [strOf_one, if_pos (by omega), show wrap64 (((d + 1 : Nat) : Int) - 1) = (d : Int) by rw [w64 (by omega)]; omega]
    exact hk' k (by omega)
theorem draw_ok {l : List Int} (hs : Bytes l) (p n0 : Int) (hp : 0 ≤ p) (hp2 : p ≤ 90000) (hn0 : n0 ≤ 1000) :
    Some4 (fun k => spec_l20Value.f k l p n0) 20 p (p + 20) := by
  obtain ⟨r, hr, r0, r1, _⟩ := pick_ok hs p 7 hp (by omega) (by decide)
  have r1 := r1 (by decide)
  have hu : ∀ k, 1 ≤ k → spec_l20Value.f k l p n0 = (if r = 0 then (spec_l20Value.j3 k n0 l (p + 1) 0 0 (⟨#[]⟩ : ByteArray)) else (if r = 1 then (spec_l20Value.j0 k n0 r (r == 1) l (p + 1)) else (if r = 2 then (spec_l20Value.j0 k n0 r (r == 2) l (p + 1)) else (spec_l20Value.j0 k n0 r (r == 3) l (p + 1))))) := by
    intro k hk
    unfold spec_l20Value.f
    rw [hr k hk]
    rfl
  have e0 : (⟨#[]⟩ : ByteArray).size = 0 := rfl
  -- a number
  have num : Some4 (fun k => spec_l20Value.j0 k n0 r true l (p + 1)) 10 (p + 1) (p + 20) := by
    obtain ⟨a, ha, a0, a1, _⟩ := pick_ok hs (p + 1) 7 (by omega) (by omega) (by decide)
    obtain ⟨b, hb, _⟩ := pick_ok hs (p + 1 + 1) 8 (by omega) (by omega) (by decide)
    obtain ⟨c, hc, c0, c1, _⟩ := pick_ok hs (p + 1 + 1 + 1) 5 (by omega) (by omega) (by decide)
    have c1 := c1 (by decide)
    by_cases hb0 : b = 0
    · obtain ⟨t', n', s', p', hk', h1, h2, h3⟩ := draw3 hs n0 (p + 1 + 1 + 1 + 1) 1 (rd [9999, -9999, 255, 256, -256] c) ⟨#[]⟩ hn0 (by omega) (by omega) (by rw [e0]; omega)
      refine ⟨t', n', s', p', fun k hk => ?_, by omega, by omega, h3⟩
      obtain ⟨k, rfl⟩ : ∃ m, k = m + 1 := ⟨k - 1, by omega⟩
      simp only [spec_l20Value.j0]
      rw [if_pos (by decide), ha k (by omega)]
      simp only [Option.bind_some]
      rw [hb k (by omega)]
      simp only [Option.bind_some]
      rw [if_pos hb0, hc k (by omega)]
      simp only [Option.bind_some]
      rw [if_pos c0, if_pos (show c < ((([9999, -9999, 255, 256, -256] : List Int).length : Nat) : Int) from c1)]
      exact hk' k (by omega)
    · obtain ⟨t', n', s', p', hk', h1, h2, h3⟩ := draw3 hs n0 (p + 1 + 1 + 1) 1 (wrap64 (a - 3)) ⟨#[]⟩ hn0 (by omega) (by omega) (by rw [e0]; omega)
      refine ⟨t', n', s', p', fun k hk => ?_, by omega, by omega, h3⟩
      obtain ⟨k, rfl⟩ : ∃ m, k = m + 1 := ⟨k - 1, by omega⟩
      simp only [spec_l20Value.j0]
      rw [if_pos (by decide), ha k (by omega)]
      simp only [Option.bind_some]
      rw [hb k (by omega)]
      simp only [Option.bind_some]
      rw [if_neg hb0]
      exact hk' k (by omega)
  -- a text
  have text : Some4 (fun k => spec_l20Value.j1 k n0 true l (p + 1)) 15 (p + 1) (p + 20) := by
    obtain ⟨a, ha, a0, a1, _⟩ := pick_ok hs (p + 1) 4 (by omega) (by omega) (by decide)
    have a1 := a1 (by decide)
    obtain ⟨d, rfl⟩ := Int.eq_ofNat_of_zero_le a0
    obtain ⟨t', n', s', p', hk', h1, h2, h3⟩ := draw_text hs n0 2 0 hn0 d (p + 1 + 1) ⟨#[]⟩ (by omega) (by omega) (by omega) (by rw [e0]; omega)
    refine ⟨t', n', s', p', fun k hk => ?_, by omega, by omega, h3⟩
    obtain ⟨k, rfl⟩ : ∃ m, k = m + 1 := ⟨k - 1, by omega⟩
    simp only [spec_l20Value.j1]
    rw [if_pos (by decide), ha k (by omega)]
    simp only [Option.bind_some]
    exact hk' k (by omega)
  -- a truth
  have truth : Some4 (fun k => spec_l20Value.j1 k n0 false l (p + 1)) 15 (p + 1) (p + 20) := by
    obtain ⟨a, ha, _⟩ := pick_ok hs (p + 1) 2 (by omega) (by omega) (by decide)
    obtain ⟨t', n', s', p', hk', h1, h2, h3⟩ := draw3 hs n0 (p + 1 + 1) 3 a ⟨#[]⟩ hn0 (by omega) (by omega) (by rw [e0]; omega)
    refine ⟨t', n', s', p', fun k hk => ?_, by omega, by omega, h3⟩
    obtain ⟨k, rfl⟩ : ∃ m, k = m + 1 := ⟨k - 1, by omega⟩
    simp only [spec_l20Value.j1]
    rw [if_neg (by decide), ha k (by omega)]
    simp only [Option.bind_some]
    exact hk' k (by omega)
  by_cases c0 : r = 0
  · obtain ⟨t', n', s', p', hk', h1, h2, h3⟩ := draw3 hs n0 (p + 1) 0 0 ⟨#[]⟩ hn0 (by omega) (by omega) (by rw [e0]; omega)
    refine ⟨t', n', s', p', fun k hk => ?_, by omega, by omega, h3⟩
    show spec_l20Value.f k l p n0 = _
    rw [hu k (by omega), if_pos c0]
    exact hk' k (by omega)
  by_cases c3 : r = 1 ∨ r = 2 ∨ r = 3
  · obtain ⟨t', n', s', p', hk', h1, h2, h3⟩ := num
    refine ⟨t', n', s', p', fun k hk => ?_, by omega, h2, h3⟩
    show spec_l20Value.f k l p n0 = _
    rw [hu k (by omega), if_neg c0]
    rcases c3 with rfl | rfl | rfl
    · exact hk' k (by omega)
    · exact hk' k (by omega)
    · exact hk' k (by omega)
  · have hj : ∀ k, 1 ≤ k → spec_l20Value.f (k + 1) l p n0 = spec_l20Value.j1 k n0 (r == 4 || r == 5) l (p + 1) := by
      intro k hk
      rw [hu (k + 1) (by omega), if_neg c0, if_neg (by omega), if_neg (by omega), beq_eq_false_iff_ne.2 (show r ≠ 3 by omega)]
      simp only [spec_l20Value.j0]
      rw [if_neg (by decide)]
      by_cases c4 : r = 4
      · rw [if_pos c4, c4]
        rfl
      · rw [if_neg c4, beq_eq_false_iff_ne.2 c4, Bool.false_or]
    by_cases c4 : r = 4 ∨ r = 5
    · obtain ⟨t', n', s', p', hk', h1, h2, h3⟩ := text
      refine ⟨t', n', s', p', fun k hk => ?_, by omega, h2, h3⟩
      obtain ⟨k, rfl⟩ : ∃ m, k = m + 1 := ⟨k - 1, by omega⟩
      show spec_l20Value.f (k + 1) l p n0 = _
      rw [hj k (by omega), show (r == 4 || r == 5) = true by rcases c4 with rfl | rfl <;> rfl]
      exact hk' k (by omega)
    · obtain ⟨t', n', s', p', hk', h1, h2, h3⟩ := truth
      refine ⟨t', n', s', p', fun k hk => ?_, by omega, h2, h3⟩
      obtain ⟨k, rfl⟩ : ∃ m, k = m + 1 := ⟨k - 1, by omega⟩
      show spec_l20Value.f (k + 1) l p n0 = _
      rw [hj k (by omega), show (r == 4 || r == 5) = false by rw [beq_eq_false_iff_ne.2 (show r ≠ 4 by omega), beq_eq_false_iff_ne.2 (show r ≠ 5 by omega)]; rfl]
      exact hk' k (by omega)

end Go.Proofs.Ytalhkihppcjanaa.Pure
set_option linter.unusedVariables false
set_option linter.unusedSimpArgs false
namespace Go.Proofs.Ytalhkihppcjanaa.Pure
open Go.RowKit Go.Proofs.YtalhkihppcjanaaV.PrintWords Go.Proofs.YtalhkihppcjanaaV.PrintLast Go.Proofs.YtalhkihppcjanaaV.PrintMore

theorem w64g {n : Int} (h : -9223372036854775808 ≤ n ∧ n ≤ 9223372036854775807) : wrap64 n = n := by unfold wrap64; omega
theorem scan_all (F : Nat → Int → Option Bool) (n K : Nat) (G : Nat → Prop) (fin : Bool)
    (h1 : ∀ k j, K ≤ k → j < n → G j → F (k + 1) (j : Int) = F k ((j + 1 : Nat) : Int))
    (h2 : ∀ k j, K ≤ k → j < n → ¬ G j → F (k + 1) (j : Int) = some false)
    (h3 : ∀ k, K ≤ k → F (k + 1) (n : Int) = some fin) :
    ∃ b, (∀ k, n + 1 + K ≤ k → F k 0 = some b) ∧ (b = true ↔ ((∀ j, j < n → G j) ∧ fin = true)) := by
  have main : ∀ d i, i + d = n → ∃ b, (∀ k, d + 1 + K ≤ k → F k (i : Int) = some b) ∧ (b = true ↔ ((∀ j, i ≤ j → j < n → G j) ∧ fin = true)) := by
    intro d
    induction d with
    | zero =>
      intro i hi
      have hi : i = n := by omega
      subst hi
      refine ⟨fin, fun k hk => ?_, ⟨fun h => ⟨fun j h1 h2 => by omega, h⟩, fun h => h.2⟩⟩
      obtain ⟨k, rfl⟩ : ∃ m, k = m + 1 := ⟨k - 1, by omega⟩
      exact h3 k (by omega)
    | succ d ih =>
      intro i hi
      by_cases g : G i
      · obtain ⟨b, hb, hb'⟩ := ih (i + 1) (by omega)
        refine ⟨b, fun k hk => ?_, ?_⟩
        · obtain ⟨k, rfl⟩ : ∃ m, k = m + 1 := ⟨k - 1, by omega⟩
          rw [h1 k i (by omega) (by omega) g]
          exact hb k (by omega)
        · rw [hb']
          constructor
          · intro h
            refine ⟨fun j hj hj' => ?_, h.2⟩
            by_cases e : j = i
            · rw [e]; exact g
            · exact h.1 j (by omega) hj'
          · intro h
            exact ⟨fun j hj hj' => h.1 j (by omega) hj', h.2⟩
      · refine ⟨false, fun k hk => ?_, ?_⟩
        · obtain ⟨k, rfl⟩ : ∃ m, k = m + 1 := ⟨k - 1, by omega⟩
          exact h2 k i (by omega) (by omega) g
        · constructor
          · intro h
            cases h
          · intro h
            exact absurd (h.1 i (Nat.le_refl _) (by omega)) g
  obtain ⟨b, hb, hb'⟩ := main n 0 (by omega)
  refine ⟨b, hb, ?_⟩
  rw [hb']
  constructor
  · intro h; exact ⟨fun j hj => h.1 j (by omega) hj, h.2⟩
  · intro h; exact ⟨fun j _ hj => h.1 j hj, h.2⟩
theorem go_all {α : Type} (F : Nat → Int → Option α) (n K c : Nat) (r : α)
    (h1 : ∀ k j, K ≤ k → j < n → F (k + c) (j : Int) = F k ((j + 1 : Nat) : Int))
    (h3 : ∀ k, K ≤ k → F (k + c) (n : Int) = some r) : ∀ k, K + c * (n + 1) ≤ k → F k 0 = some r := by
  have main : ∀ d i, i + d = n → ∀ k, K + c * (d + 1) ≤ k → F k (i : Int) = some r := by
    intro d
    induction d with
    | zero =>
      intro i hi k hk
      have hi : i = n := by omega
      subst hi
      obtain ⟨k, rfl⟩ : ∃ m, k = m + c := ⟨k - c, by omega⟩
      exact h3 k (by omega)
    | succ d ih =>
      intro i hi k hk
      have e : c * (d + 1 + 1) = c * (d + 1) + c := Nat.mul_succ _ _
      obtain ⟨k, rfl⟩ : ∃ m, k = m + c := ⟨k - c, by omega⟩
      rw [h1 k i (by omega) (by omega)]
      exact ih (i + 1) (by omega) k (by omega)
  exact main n 0 (by omega)
theorem copy_all {β : Type} (F : Nat → List β → Int → Option (List β)) (L : List β) (x0 : List β) (hx : x0.length = L.length) (d : β)
    (h1 : ∀ k (x : List β) j, j < L.length → x.length = L.length → F (k + 1) x (j : Int) = F k (x.set j (L.getD j d)) ((j + 1 : Nat) : Int))
    (h3 : ∀ k x, x.length = L.length → F (k + 1) x (L.length : Int) = some x) : ∀ k, L.length + 1 ≤ k → F k x0 0 = some L := by
  have main : ∀ e i, i + e = L.length → ∀ k, e + 1 ≤ k → F k (L.take i ++ x0.drop i) (i : Int) = some L := by
    intro e
    induction e with
    | zero =>
      intro i hi k hk
      have hi : i = L.length := by omega
      subst hi
      obtain ⟨k, rfl⟩ : ∃ m, k = m + 1 := ⟨k - 1, by omega⟩
      rw [h3 k _ (by simp [hx]), List.take_length, List.drop_of_length_le (by omega), List.append_nil]
    | succ e ih =>
      intro i hi k hk
      obtain ⟨k, rfl⟩ : ∃ m, k = m + 1 := ⟨k - 1, by omega⟩
      have hlen : (L.take i ++ x0.drop i).length = L.length := by
        rw [List.length_append, List.length_take, List.length_drop]
        omega
      rw [h1 k _ i (by omega) hlen]
      have hi' : i < L.length := by omega
      have hi2 : i < x0.length := by omega
      have e2 : (L.take i ++ x0.drop i).set i (L.getD i d) = L.take (i + 1) ++ x0.drop (i + 1) := by
        rw [List.set_append_right _ _ (by rw [List.length_take]; omega), List.length_take, show i - min i L.length = 0 by omega, List.drop_eq_getElem_cons hi2, List.set_cons_zero]
        rw [List.take_succ_eq_append_getElem hi', List.append_assoc]
        congr 1
        rw [List.getD_eq_getElem?_getD, List.getElem?_eq_getElem hi']
        rfl
      rw [e2]
      exact ih (i + 1) (by omega) k (by omega)
  intro k hk
  have := main L.length 0 (by omega) k hk
  simpa using this
theorem chain_iff {α : Type} (d : α) (Q : α → Prop) (R : α → α → Prop) (tr : ∀ a b c, R a b → R b c → R a c) (l : List α) :
    (∀ j, j < l.length → Q (l.getD j d) ∧ (0 < j → R (l.getD (j - 1) d) (l.getD j d))) ↔ ((∀ x ∈ l, Q x) ∧ l.Pairwise R) := by
  have gd : ∀ j (h : j < l.length), l.getD j d = l[j] := by
    intro j h
    rw [List.getD_eq_getElem?_getD, List.getElem?_eq_getElem h]
    rfl
  constructor
  · intro h
    refine ⟨fun x hx => ?_, ?_⟩
    · obtain ⟨j, hj, rfl⟩ := List.getElem_of_mem hx
      rw [← gd j hj]
      exact (h j hj).1
    · rw [List.pairwise_iff_getElem]
      have main : ∀ e i (hi : i < l.length) (hj : i + e + 1 < l.length), R l[i] l[i + e + 1] := by
        intro e
        induction e with
        | zero =>
          intro i hi hj
          have := (h (i + 0 + 1) hj).2 (by omega)
          rw [gd _ (show i + 0 + 1 - 1 < l.length by omega), gd _ hj] at this
          exact this
        | succ e ih =>
          intro i hi hj
          have h1 := ih i hi (by omega)
          have := (h (i + (e + 1) + 1) hj).2 (by omega)
          rw [gd _ (show i + (e + 1) + 1 - 1 < l.length by omega), gd _ hj] at this
          exact tr _ _ _ h1 this
      intro i j hi hj hij
      obtain ⟨e, rfl⟩ : ∃ e, j = i + e + 1 := ⟨j - i - 1, by omega⟩
      exact main e i hi hj
  · intro h j hj
    refine ⟨?_, fun h0 => ?_⟩
    · rw [gd j hj]
      exact h.1 _ (List.getElem_mem hj)
    · rw [gd j hj, gd (j - 1) (by omega)]
      exact List.pairwise_iff_getElem.1 h.2 (j - 1) j (by omega) hj (by omega)
/-- What holds of a chain holds of the chain without one of its elements. -/
theorem chain_less {α : Type} {Q : α → Prop} {R : α → α → Prop} {l : List α} (h : (∀ x ∈ l, Q x) ∧ l.Pairwise R) (a b : Nat) (hab : a ≤ b) :
    (∀ x ∈ l.take a ++ l.drop b, Q x) ∧ (l.take a ++ l.drop b).Pairwise R := by
  have sub : (l.take a ++ l.drop b).Sublist l := by
    have h1 : (l.take a ++ l.drop b).Sublist (l.take a ++ l.drop a) := by
      apply List.Sublist.append (List.Sublist.refl _)
      rw [show b = a + (b - a) by omega, ← List.drop_drop]
      exact List.drop_sublist _ _
    rwa [List.take_append_drop] at h1
  exact ⟨fun x hx => h.1 x (sub.subset hx), h.2.sublist sub⟩
theorem go_all2 {α : Type} (F : Nat → Int → Option α) (n K : Nat) (r : α)
    (h1 : ∀ k j, K ≤ k → j < n → F (k + 1 + 1) (j : Int) = F k ((j + 1 : Nat) : Int))
    (h3 : ∀ k, K ≤ k → F (k + 1 + 1) (n : Int) = some r) : ∀ k, K + 2 * (n + 1) ≤ k → F k 0 = some r :=
  go_all F n K 2 r h1 h3
theorem any_ok {α : Type} (F : Nat → Int → Option α) (n K : Nat)
    (h1 : ∀ j, j < n → (∃ r, ∀ k, K ≤ k → F (k + 1) (j : Int) = some r) ∨ (∀ k, K ≤ k → F (k + 1) (j : Int) = F k ((j + 1 : Nat) : Int)))
    (h3 : ∃ r, ∀ k, K ≤ k → F (k + 1) (n : Int) = some r) : ∃ r, ∀ k, n + 1 + K ≤ k → F k 0 = some r := by
  have main : ∀ d i, i + d = n → ∃ r, ∀ k, d + 1 + K ≤ k → F k (i : Int) = some r := by
    intro d
    induction d with
    | zero =>
      intro i hi
      have hi : i = n := by omega
      subst hi
      obtain ⟨r, hr⟩ := h3
      refine ⟨r, fun k hk => ?_⟩
      obtain ⟨k, rfl⟩ : ∃ m, k = m + 1 := ⟨k - 1, by omega⟩
      exact hr k (by omega)
    | succ d ih =>
      intro i hi
      rcases h1 i (by omega) with ⟨r, hr⟩ | h
      · refine ⟨r, fun k hk => ?_⟩
        obtain ⟨k, rfl⟩ : ∃ m, k = m + 1 := ⟨k - 1, by omega⟩
        exact hr k (by omega)
      · obtain ⟨r, hr⟩ := ih (i + 1) (by omega)
        refine ⟨r, fun k hk => ?_⟩
        obtain ⟨k, rfl⟩ : ∃ m, k = m + 1 := ⟨k - 1, by omega⟩
        rw [h k (by omega)]
        exact hr k (by omega)
  exact main n 0 (by omega)

end Go.Proofs.Ytalhkihppcjanaa.Pure
set_option linter.unusedVariables false
set_option linter.unusedSimpArgs false
namespace Go.Proofs.Ytalhkihppcjanaa.Pure
open Go.RowKit Go.Proofs.Ytalhkihppcjanaa.X Go.Proofs.YtalhkihppcjanaaV.PrintWords Go.Proofs.YtalhkihppcjanaaV.PrintLast Go.Proofs.YtalhkihppcjanaaV.PrintMore

theorem like_j0 {s : List Int} (hs : Bytes s) (b : Bool) (p : Int) (hp : 0 ≤ p) (hp2 : p ≤ 90000) (f0 : Int) (f1 : Bool) : Some4 (fun k => spec_l20Like.j0 k b s p f0 f1) 3 p (p + 1) := by
  by_cases hb : b = true
  · refine ⟨0, 0, ⟨#[]⟩, p, fun k hk => ?_, Int.le_refl _, by omega, by decide⟩
    obtain ⟨k, rfl⟩ : ∃ m, k = m + 1 := ⟨k - 1, by omega⟩
    show spec_l20Like.j0 (k + 1) b s p f0 f1 = _
    rw [spec_l20Like.j0, if_pos hb]
  by_cases h1 : f0 = 1
  · obtain ⟨r, hr, _⟩ := pick_ok hs p 4 hp (by omega) (by decide)
    refine ⟨1, r, ⟨#[]⟩, p + 1, fun k hk => ?_, by omega, by omega, by decide⟩
    obtain ⟨k, rfl⟩ : ∃ m, k = m + 1 := ⟨k - 1, by omega⟩
    show spec_l20Like.j0 (k + 1) b s p f0 f1 = _
    rw [spec_l20Like.j0, if_neg hb, if_pos h1, hr k (by omega), Option.bind_some]
  by_cases h2 : f0 = 2
  · obtain ⟨r, hr, r0, r1, _⟩ := pick_ok hs p 4 hp (by omega) (by decide)
    have r1 := r1 (by decide)
    refine ⟨2, 0, rdOf ByteArray.empty [⟨#[]⟩, ⟨#[97]⟩, ⟨#[98]⟩, ⟨#[97, 98]⟩] r, p + 1, fun k hk => ?_, by omega, by omega, ?_⟩
    · obtain ⟨k, rfl⟩ : ∃ m, k = m + 1 := ⟨k - 1, by omega⟩
      show spec_l20Like.j0 (k + 1) b s p f0 f1 = _
      rw [spec_l20Like.j0, if_neg hb, if_neg h1, if_pos h2, Option.bind_some, hr k (by omega), Option.bind_some, if_pos r0, if_pos (show r < (([⟨#[]⟩, ⟨#[97]⟩, ⟨#[98]⟩, ⟨#[97, 98]⟩] : List ByteArray).length : Int) from r1)]
    · have : r = 0 ∨ r = 1 ∨ r = 2 ∨ r = 3 := by omega
      rcases this with rfl | rfl | rfl | rfl <;> decide
  · obtain ⟨r, hr, _⟩ := pick_ok hs p 2 hp (by omega) (by decide)
    refine ⟨3, r, ⟨#[]⟩, p + 1, fun k hk => ?_, by omega, by omega, by decide⟩
    obtain ⟨k, rfl⟩ : ∃ m, k = m + 1 := ⟨k - 1, by omega⟩
    show spec_l20Like.j0 (k + 1) b s p f0 f1 = _
    rw [spec_l20Like.j0, if_neg hb, if_neg h1, if_neg h2, hr k (by omega), Option.bind_some]
theorem like_ok {s : List Int} (hs : Bytes s) (p : Int) (hp : 0 ≤ p) (hp2 : p ≤ 80000) (f0 : Int) (f1 : Bool) : Some4 (fun k => spec_l20Like.f k s p f0 f1) 3 p (p + 2) := by
  by_cases h : f1 = true
  · obtain ⟨r, hr, _⟩ := pick_ok hs p 5 hp (by omega) (by decide)
    obtain ⟨t, n, x, p', hk', h1, h2, h3⟩ := like_j0 hs (r == 0) (p + 1) (by omega) (by omega) f0 f1
    refine ⟨t, n, x, p', fun k hk => ?_, by omega, by omega, h3⟩
    show spec_l20Like.f k s p f0 f1 = _
    unfold spec_l20Like.f
    rw [if_pos h, hr k (by omega), Option.bind_some]
    exact hk' k hk
  · obtain ⟨t, n, x, p', hk', h1, h2, h3⟩ := like_j0 hs false p (by omega) (by omega) f0 f1
    refine ⟨t, n, x, p', fun k hk => ?_, by omega, by omega, h3⟩
    show spec_l20Like.f k s p f0 f1 = _
    unfold spec_l20Like.f
    rw [if_neg h]
    exact hk' k hk
def Short (l : List S83) : Prop := ∀ x ∈ l, x.f2.size ≤ 40
theorem short_app {a b : List S83} (h : Short a) (h' : Short b) : Short (a ++ b) := by
  intro x hx
  rcases List.mem_append.1 hx with g | g
  · exact h x g
  · exact h' x g
theorem short_one {x : S83} (h : x.f2.size ≤ 40) : Short [x] := by
  intro y hy
  rw [List.mem_singleton.1 hy]
  exact h
theorem fit_end {s : List Int} (hs : Bytes s) (c : List S113) (m : Int) (hm : m ≤ 1000) (x7 : List S83) (p : Int) (hp : 0 ≤ p) (hp2 : p ≤ 50000) (hx : x7.length ≤ 10) (hsh : Short x7) :
    ∃ r p', (∀ k, 40 ≤ k → spec_l20Fit.l0 k c m x7 (c.length : Int) s p = some (r, p')) ∧ r.length ≤ 20 ∧ Short r := by
  obtain ⟨b, p1, hb, h0, h1, _⟩ := odd_ok hs p m hp (by omega) (by omega)
  cases b with
  | false =>
    refine ⟨x7, p1, fun k hk => ?_, by omega, hsh⟩
    obtain ⟨k, rfl⟩ : ∃ m, k = m + 1 := ⟨k - 1, by omega⟩
    rw [spec_l20Fit.l0, if_neg (by omega), hb k (by omega), Option.bind_some, if_neg Bool.false_ne_true]
  | true =>
    obtain ⟨q, hq, _⟩ := pick_ok hs p1 3 h0 (by omega) (by decide)
    by_cases e0 : q = 0
    · refine ⟨x7 ++ [⟨0, 0, ⟨#[]⟩⟩], p1 + 1, fun k hk => ?_, by rw [List.length_append]; simp; omega, short_app hsh (short_one (by decide))⟩
      obtain ⟨k, rfl⟩ : ∃ m, k = m + 1 := ⟨k - 1, by omega⟩
      rw [spec_l20Fit.l0, if_neg (by omega), hb k (by omega), Option.bind_some, if_pos rfl, hq k (by omega), Option.bind_some, if_pos e0, if_pos (by omega)]
    by_cases e1 : q = 1
    · by_cases e2 : (x7.length : Int) > 0
      · obtain ⟨i, hi, i0, i1, _⟩ := pick_ok hs (p1 + 1) (x7.length : Int) (by omega) (by omega) (by omega)
        have i1 := i1 (by omega)
        obtain ⟨t, n, x, p2, hk2, _, _, hx2⟩ := draw_ok hs (p1 + 1 + 1) 3 (by omega) (by omega) (by decide)
        refine ⟨x7.set i.toNat ⟨t, n, x⟩, p2, fun k hk => ?_, by rw [List.length_set]; omega, ?_⟩
        · obtain ⟨k, rfl⟩ : ∃ m, k = m + 1 := ⟨k - 1, by omega⟩
          have hd : spec_l20Value.f k s (p1 + 1 + 1) 3 = some (t, n, x, p2) := hk2 k (by omega)
          rw [spec_l20Fit.l0, if_neg (by omega), hb k (by omega), Option.bind_some, if_pos rfl, hq k (by omega), Option.bind_some, if_neg e0, if_pos e1, if_pos e2, hi k (by omega), Option.bind_some, hd, Option.bind_some, if_pos i0, if_pos i1]
        · intro y hy
          rcases List.mem_or_eq_of_mem_set hy with g | g
          · exact hsh y g
          · rw [g]
            exact hx2
      · refine ⟨x7, p1 + 1, fun k hk => ?_, by omega, hsh⟩
        obtain ⟨k, rfl⟩ : ∃ m, k = m + 1 := ⟨k - 1, by omega⟩
        rw [spec_l20Fit.l0, if_neg (by omega), hb k (by omega), Option.bind_some, if_pos rfl, hq k (by omega), Option.bind_some, if_neg e0, if_pos e1, if_neg e2]
    · obtain ⟨t, n, x, p2, hk2, a2, b2, hx2⟩ := draw_ok hs (p1 + 1) 0 (by omega) (by omega) (by decide)
      obtain ⟨t3, n3, x3, p3, hk3, a3, b3, hx3⟩ := draw_ok hs p2 0 (by omega) (by omega) (by decide)
      obtain ⟨t4, n4, x4, p4, hk4, a4, b4, hx4⟩ := draw_ok hs p3 0 (by omega) (by omega) (by decide)
      refine ⟨x7 ++ [⟨t, n, x⟩, ⟨t3, n3, x3⟩, ⟨t4, n4, x4⟩], p4, fun k hk => ?_, by rw [List.length_append]; simp; omega, short_app hsh (short_app (short_one hx2) (short_app (short_one hx3) (short_one hx4)))⟩
      obtain ⟨k, rfl⟩ : ∃ m, k = m + 1 := ⟨k - 1, by omega⟩
      have hd2 : spec_l20Value.f k s (p1 + 1) 0 = some (t, n, x, p2) := hk2 k (by omega)
      have hd3 : spec_l20Value.f k s p2 0 = some (t3, n3, x3, p3) := hk3 k (by omega)
      have hd4 : spec_l20Value.f k s p3 0 = some (t4, n4, x4, p4) := hk4 k (by omega)
      rw [spec_l20Fit.l0, if_neg (by omega), hb k (by omega), Option.bind_some, if_pos rfl, hq k (by omega), Option.bind_some, if_neg e0, if_neg e1, hd2, Option.bind_some, hd3, Option.bind_some, hd4, Option.bind_some, Option.bind_some, if_pos (by simp only [List.length_cons, List.length_nil]; omega)]
theorem fit_loop {s : List Int} (hs : Bytes s) (c : List S113) (hc : c.length ≤ 10) (m : Int) (hm : m ≤ 1000) : ∀ (d i : Nat) (x7 : List S83) (p : Int), i + d = c.length → 0 ≤ p → p + 2 * d ≤ 40000 → x7.length ≤ i → Short x7 →
    ∃ r p', (∀ k, d + 40 ≤ k → spec_l20Fit.l0 k c m x7 (i : Int) s p = some (r, p')) ∧ r.length ≤ 20 ∧ Short r := by
  intro d
  induction d with
  | zero =>
    intro i x7 p hi hp hp2 hx hsh
    have hi : i = c.length := by omega
    subst hi
    obtain ⟨r, p', h1, h2, h3⟩ := fit_end hs c m hm x7 p hp (by omega) (by omega) hsh
    exact ⟨r, p', fun k hk => h1 k (by omega), h2, h3⟩
  | succ d ih =>
    intro i x7 p hi hp hp2 hx hsh
    obtain ⟨t, n, x, p1, hk1, a1, b1, hx1⟩ := like_ok hs p hp (by omega) ((rd_T113 c i).f0) ((rd_T113 c i).f1)
    obtain ⟨r, p', h1, h2, h3⟩ := ih (i + 1) (x7 ++ [⟨t, n, x⟩]) p1 (by omega) (by omega) (by omega) (by rw [List.length_append]; simp; omega) (short_app hsh (short_one hx1))
    refine ⟨r, p', fun k hk => ?_, h2, h3⟩
    obtain ⟨k, rfl⟩ : ∃ m, k = m + 1 := ⟨k - 1, by omega⟩
    have hd : spec_l20Like.f k s p ((rd_T113 c i).f0) ((rd_T113 c i).f1) = some (t, n, x, p1) := hk1 k (by omega)
    rw [spec_l20Fit.l0, if_pos (by omega), if_pos (by omega), hd, Option.bind_some, if_pos (by omega), show wrap64 ((i : Int) + 1) = ((i + 1 : Nat) : Int) by rw [w64g (by omega)]; omega]
    exact h1 k (by omega)
theorem draw_fit {s : List Int} (hs : Bytes s) (c : List S113) (hc : c.length ≤ 10) (m : Int) (hm : m ≤ 1000) (p : Int) (hp : 0 ≤ p) (hp2 : p ≤ 30000) :
    ∃ r p', (∀ k, 60 ≤ k → spec_l20Fit.f k s p c m = some (r, p')) ∧ r.length ≤ 20 ∧ Short r := by
  obtain ⟨r, p', h1, h2, h3⟩ := fit_loop hs c hc m hm c.length 0 [] p (by omega) hp (by omega) (by simp) (fun x hx => absurd hx List.not_mem_nil)
  exact ⟨r, p', fun k hk => h1 k (by omega), h2, h3⟩

end Go.Proofs.Ytalhkihppcjanaa.Pure
set_option linter.unusedVariables false
set_option linter.unusedSimpArgs false
namespace Go.Proofs.Ytalhkihppcjanaa.Pure
open Go.RowKit Go.Proofs.Ytalhkihppcjanaa.X Go.Proofs.YtalhkihppcjanaaV.PrintWords Go.Proofs.YtalhkihppcjanaaV.PrintLast Go.Proofs.YtalhkihppcjanaaV.PrintMore

theorem open_ok {l : List Int} (h : ∀ x ∈ l, (Lit.int .u8 x).wf = true) : ∃ s, spec_l20Open.f l = some (s, 0) ∧ Bytes s := by
  unfold spec_l20Open.f
  by_cases hl : (l.length : Int) > 2000
  · rw [if_pos hl, if_pos (by omega)]
    exact ⟨_, rfl, bytes_take h 2000 (Nat.le_refl _)⟩
  · rw [if_neg hl]
    exact ⟨_, rfl, bytes_of h (by omega)⟩

end Go.Proofs.Ytalhkihppcjanaa.Pure
set_option linter.unusedVariables false
set_option linter.unusedSimpArgs false
namespace Go.Proofs.Ytalhkihppcjanaa.Pure
open Go.RowKit Go.Proofs.Ytalhkihppcjanaa.X Go.Proofs.YtalhkihppcjanaaV.PrintWords Go.Proofs.YtalhkihppcjanaaV.PrintLast Go.Proofs.YtalhkihppcjanaaV.PrintMore

theorem draw_cols_loop {s : List Int} (hs : Bytes s) (n : Int) (hn : n ≤ 1000) : ∀ (d : Nat) (l : List S113) (p : Int), 0 ≤ p → p + 2 * d ≤ 90000 → d ≤ 6 → l.length + d ≤ 6 →
    ∃ r p', (∀ k, d + 3 ≤ k → spec_l20Columns.l0 k n l (d : Int) s p = some (r, p')) ∧ r.length ≤ 10 ∧ 0 ≤ p' ∧ p' ≤ p + 2 * d + 2 := by
  intro d
  induction d with
  | zero =>
    intro l p hp hp2 _ hz
    obtain ⟨b, p1, hb, h0, h1, _⟩ := odd_ok hs p n hp (by omega) (by omega)
    cases b with
    | false =>
      refine ⟨l, p1, fun k hk => ?_, by omega, by omega, by omega⟩
      obtain ⟨k, rfl⟩ : ∃ m, k = m + 1 := ⟨k - 1, by omega⟩
      rw [spec_l20Columns.l0, if_neg (by decide), hb k (by omega), Option.bind_some]
      rfl
    | true =>
      obtain ⟨c, hc, _⟩ := pick_ok hs p1 6 h0 (by omega) (by decide)
      refine ⟨l ++ [⟨wrap64 (c - 1), false⟩, ⟨1, false⟩, ⟨1, false⟩], p1 + 1, fun k hk => ?_, by rw [List.length_append]; simp; omega, by omega, by omega⟩
      obtain ⟨k, rfl⟩ : ∃ m, k = m + 1 := ⟨k - 1, by omega⟩
      rw [spec_l20Columns.l0, if_neg (by decide), hb k (by omega), Option.bind_some, if_pos rfl, hc k (by omega), Option.bind_some, Option.bind_some, if_pos (by simp only [List.length_cons, List.length_nil]; omega)]
  | succ d ih =>
    intro l p hp hp2 hd hz
    obtain ⟨c, hc, c0, c1, _⟩ := pick_ok hs p 4 hp (by omega) (by decide)
    have c1 := c1 (by decide)
    obtain ⟨c2, hc2, _⟩ := pick_ok hs (p + 1) 3 (by omega) (by omega) (by decide)
    obtain ⟨r, p', hr, h2, h3, h4⟩ := ih (l ++ [⟨rd [1, 1, 2, 3] c, decide (c2 > 0)⟩]) (p + 1 + 1) (by omega) (by omega) (by omega) (by rw [List.length_append]; simp; omega)
    refine ⟨r, p', fun k hk => ?_, h2, h3, by omega⟩
    obtain ⟨k, rfl⟩ : ∃ m, k = m + 1 := ⟨k - 1, by omega⟩
    rw [spec_l20Columns.l0, if_pos (by omega), Option.bind_some, hc k (by omega), Option.bind_some, if_pos c0, if_pos (show c < (([1, 1, 2, 3] : List Int).length : Int) from c1), hc2 k (by omega), Option.bind_some, if_pos (by omega), show wrap64 (((d + 1 : Nat) : Int) - 1) = (d : Int) by rw [w64g (by omega)]; omega]
    exact hr k (by omega)
theorem draw_cols {s : List Int} (hb : Bytes s) (p n : Int) (hp : 0 ≤ p) (hp2 : p ≤ 80000) (hn : n ≤ 1000) : ∃ r p', (∀ k, 20 ≤ k → spec_l20Columns.f k s p n = some (r, p')) ∧ r.length ≤ 10 ∧ 0 ≤ p' ∧ p' ≤ p + 20 := by
  obtain ⟨c, hc, c0, c1, _⟩ := pick_ok hb p 3 hp (by omega) (by decide)
  have c1 := c1 (by decide)
  obtain ⟨e, rfl⟩ := Int.eq_ofNat_of_zero_le c0
  obtain ⟨r, p', hr, h2, h3, h4⟩ := draw_cols_loop hb n hn (e + 1) [] (p + 1) (by omega) (by omega) (by omega) (by simp; omega)
  refine ⟨r, p', fun k hk => ?_, h2, h3, by omega⟩
  unfold spec_l20Columns.f
  rw [hc k (by omega), Option.bind_some, show wrap64 (1 + (e : Int)) = ((e + 1 : Nat) : Int) by rw [w64g (by omega)]; omega]
  exact hr k (by omega)

end Go.Proofs.Ytalhkihppcjanaa.Pure
set_option linter.unusedVariables false
set_option linter.unusedSimpArgs false
namespace Go.Proofs.Ytalhkihppcjanaa.Pure
open Go.RowKit Go.Proofs.YtalhkihppcjanaaV.PrintWords Go.Proofs.YtalhkihppcjanaaV.PrintLast Go.Proofs.YtalhkihppcjanaaV.PrintMore

open Classical in
/-- How many elements of a list are x. -/
noncomputable def cnt {α : Type} (l : List α) (x : α) : Nat := l.countP (fun y => decide (y = x))
theorem cnt_nil {α : Type} (x : α) : cnt ([] : List α) x = 0 := by unfold cnt; exact List.countP_nil
theorem cnt_append {α : Type} (l m : List α) (x : α) : cnt (l ++ m) x = cnt l x + cnt m x := by unfold cnt; exact List.countP_append
open Classical in
theorem cnt_one {α : Type} (y x : α) : cnt [y] x = if y = x then 1 else 0 := by
  unfold cnt
  by_cases h : y = x
  · rw [if_pos h, List.countP_cons_of_pos (by simpa using h), List.countP_nil]
  · rw [if_neg h, List.countP_cons_of_neg (by simpa using h), List.countP_nil]
open Classical in
theorem cnt_cons {α : Type} (y : α) (l : List α) (x : α) : cnt (y :: l) x = (if y = x then 1 else 0) + cnt l x := by
  rw [show y :: l = [y] ++ l from rfl, cnt_append, cnt_one]
theorem cnt_le {α : Type} (l : List α) (x : α) : cnt l x ≤ l.length := by unfold cnt; exact List.countP_le_length
open Classical in
theorem cnt_pos {α : Type} {l : List α} {x : α} : 0 < cnt l x ↔ x ∈ l := by
  unfold cnt
  rw [List.countP_pos_iff]
  constructor
  · rintro ⟨y, hy, e⟩
    rw [← of_decide_eq_true e]; exact hy
  · intro h
    exact ⟨x, h, decide_eq_true rfl⟩
theorem cnt_zero {α : Type} {l : List α} {x : α} : cnt l x = 0 ↔ x ∉ l := by
  rw [← cnt_pos]
  omega
open Classical in
theorem cnt_take_succ {α : Type} (l : List α) (j : Nat) (hj : j < l.length) (x : α) : cnt (l.take (j + 1)) x = cnt (l.take j) x + if l[j] = x then 1 else 0 := by
  rw [List.take_succ_eq_append_getElem hj, cnt_append, cnt_one]
open Classical in
/-- Each element once. -/
noncomputable def onceStep {α : Type} (out : List α) (r : α) : List α := if cnt out r = 0 then out ++ [r] else out
noncomputable def once {α : Type} (l : List α) : List α := l.foldl onceStep []
theorem once_snoc {α : Type} (l : List α) (r : α) : once (l ++ [r]) = onceStep (once l) r := by unfold once; rw [List.foldl_append]; rfl
theorem onceStep_len {α : Type} (out : List α) (r : α) : (onceStep out r).length ≤ out.length + 1 := by
  unfold onceStep
  split
  · simp
  · omega
theorem once_all {α : Type} (l : List α) : (once l).Nodup ∧ (∀ x, x ∈ once l ↔ x ∈ l) ∧ (once l).length ≤ l.length := by
  have main : ∀ n, n ≤ l.length → (once (l.take n)).Nodup ∧ (∀ x, x ∈ once (l.take n) ↔ x ∈ l.take n) ∧ (once (l.take n)).length ≤ n := by
    intro n
    induction n with
    | zero =>
      intro _
      rw [List.take_zero]
      exact ⟨List.nodup_nil, fun x => Iff.rfl, Nat.le_refl _⟩
    | succ n ih =>
      intro hn
      obtain ⟨h1, h2, h3⟩ := ih (by omega)
      rw [List.take_succ_eq_append_getElem (show n < l.length by omega), once_snoc]
      unfold onceStep
      by_cases h : cnt (once (l.take n)) l[n] = 0
      · rw [if_pos h]
        refine ⟨?_, fun x => ?_, by simp; exact h3⟩
        · rw [List.nodup_append]
          refine ⟨h1, by simp, fun a ha b hb => ?_⟩
          rw [List.mem_singleton] at hb
          subst hb
          rintro rfl
          exact cnt_zero.1 h ha
        · rw [List.mem_append, List.mem_append, h2]
      · rw [if_neg h]
        refine ⟨h1, fun x => ?_, by omega⟩
        rw [List.mem_append, h2, List.mem_singleton]
        constructor
        · exact Or.inl
        · rintro (g | rfl)
          · exact g
          · rw [← h2]
            exact cnt_pos.1 (by omega)
  have := main l.length (Nat.le_refl _)
  rw [List.take_length] at this
  exact this
open Classical in
theorem sum_at {α : Type} (y : α) : ∀ (o : List α), o.Nodup → (o.map fun x => if y = x then 1 else 0).sum = if y ∈ o then 1 else 0
  | [], _ => by simp
  | a :: t, h => by
    rw [List.nodup_cons] at h
    rw [List.map_cons, List.sum_cons, sum_at y t h.2]
    by_cases e : y = a
    · subst e
      rw [if_pos rfl, if_neg h.1, if_pos List.mem_cons_self]
    · rw [if_neg e]
      by_cases g : y ∈ t
      · rw [if_pos g, if_pos (List.mem_cons_of_mem _ g)]
      · rw [if_neg g, if_neg (fun h' => (List.mem_cons.1 h').elim e g)]
open Classical in
/-- The counts of elements, each once, are the count of all of them. -/
theorem sum_cnt {α : Type} (o : List α) (ho : o.Nodup) : ∀ (l : List α), (o.map (cnt l)).sum = l.countP (fun y => decide (y ∈ o))
  | [] => by
    rw [List.countP_nil]
    have : o.map (cnt ([] : List α)) = o.map (fun _ => 0) := List.map_congr_left (fun a _ => cnt_nil a)
    rw [this]
    clear this ho
    induction o with
    | nil => rfl
    | cons a t ih => rw [List.map_cons, List.sum_cons, ih]
  | y :: t => by
    have e : o.map (cnt (y :: t)) = o.map (fun x => (if y = x then 1 else 0) + cnt t x) := List.map_congr_left (fun a _ => cnt_cons y t a)
    have s : ∀ (p : List α) (f g : α → Nat), (p.map fun x => f x + g x).sum = (p.map f).sum + (p.map g).sum := by
      intro p f g
      induction p with
      | nil => rfl
      | cons a t ih =>
        simp only [List.map_cons, List.sum_cons, ih]
        omega
    rw [e, s o (fun x => if y = x then 1 else 0) (cnt t), sum_at y o ho, sum_cnt o ho t]
    by_cases g : y ∈ o
    · rw [if_pos g, List.countP_cons_of_pos (by simpa using g)]
      omega
    · rw [if_neg g, List.countP_cons_of_neg (by simpa using g)]
      omega
open Classical in
theorem once_sum {α : Type} (l : List α) : ((once l).map (cnt l)).sum = l.length := by
  obtain ⟨h1, h2, _⟩ := once_all l
  rw [sum_cnt _ h1, List.countP_eq_length]
  intro a ha
  exact decide_eq_true ((h2 a).2 ha)
open Classical in
theorem bag_iff {α : Type} (a b : List α) : ((∀ r ∈ a, cnt a r = cnt b r) ∧ a.length = b.length) ↔ ∀ r ∈ a ++ b, cnt a r = cnt b r := by
  obtain ⟨h1, h2, _⟩ := once_all a
  have ea := sum_cnt _ h1 a
  have eb := sum_cnt _ h1 b
  rw [once_sum] at ea
  have em : (∀ r ∈ a, cnt a r = cnt b r) → ((once a).map (cnt a)).sum = ((once a).map (cnt b)).sum := fun h => by
    rw [List.map_congr_left (fun x hx => h x ((h2 x).1 hx))]
  constructor
  · rintro ⟨h, hl⟩ r hr
    rcases List.mem_append.1 hr with g | g
    · exact h r g
    · refine h r ((h2 r).1 ?_)
      have e := em h
      rw [once_sum, eb, hl] at e
      have := List.countP_eq_length.1 e.symm r g
      exact of_decide_eq_true this
  · intro h
    have ha : ∀ r ∈ a, cnt a r = cnt b r := fun r hr => h r (List.mem_append_left _ hr)
    refine ⟨ha, ?_⟩
    have e := em ha
    rw [once_sum, eb] at e
    rw [e, List.countP_eq_length]
    intro r hr
    refine decide_eq_true ((h2 r).2 ?_)
    rw [← cnt_pos, h r (List.mem_append_right _ hr), cnt_pos]
    exact hr
open Classical in
/-- A list without as many of each element as another one has of it, the first ones of them: what is gone, and what is left. -/
noncomputable def lessStep {α : Type} (b : List α) (s : List α × List α) (r : α) : List α × List α := if cnt s.1 r < cnt b r then (s.1 ++ [r], s.2) else (s.1, s.2 ++ [r])
noncomputable def lessGo {α : Type} (b l : List α) : List α × List α := l.foldl (lessStep b) ([], [])
theorem lessGo_snoc {α : Type} (b l : List α) (r : α) : lessGo b (l ++ [r]) = lessStep b (lessGo b l) r := by unfold lessGo; rw [List.foldl_append]; rfl
theorem lessGo_len {α : Type} (b l : List α) : (lessGo b l).1.length + (lessGo b l).2.length = l.length ∧ (∀ x ∈ (lessGo b l).2, x ∈ l) := by
  have main : ∀ n, n ≤ l.length → (lessGo b (l.take n)).1.length + (lessGo b (l.take n)).2.length = n ∧ ∀ x ∈ (lessGo b (l.take n)).2, x ∈ l := by
    intro n
    induction n with
    | zero =>
      intro _
      rw [List.take_zero]
      exact ⟨rfl, fun x hx => by cases hx⟩
    | succ n ih =>
      intro hn
      obtain ⟨h1, h2⟩ := ih (by omega)
      rw [List.take_succ_eq_append_getElem (show n < l.length by omega), lessGo_snoc]
      unfold lessStep
      split
      · refine ⟨?_, h2⟩
        simp only [List.length_append, List.length_singleton]
        omega
      · refine ⟨?_, fun x hx => ?_⟩
        · simp only [List.length_append, List.length_singleton]
          omega
        · rcases List.mem_append.1 hx with g | g
          · exact h2 x g
          · rw [List.mem_singleton] at g
            rw [g]
            exact List.getElem_mem _
  have := main l.length (Nat.le_refl _)
  rw [List.take_length] at this
  exact this

end Go.Proofs.Ytalhkihppcjanaa.Pure
set_option linter.unusedVariables false
set_option linter.unusedSimpArgs false
namespace Go.Proofs.Ytalhkihppcjanaa.Pure
open Go.RowKit Go.Proofs.Ytalhkihppcjanaa.X Go.Proofs.YtalhkihppcjanaaV.PrintWords Go.Proofs.YtalhkihppcjanaaV.PrintLast Go.Proofs.YtalhkihppcjanaaV.PrintMore

theorem mem_getD {α : Type} (l : List α) (d : α) (j : Nat) (hj : j < l.length) : l.getD j d ∈ l := by
  rw [List.getD_eq_getElem?_getD, List.getElem?_eq_getElem hj]
  exact List.getElem_mem hj
theorem rdV (l : List S83) (j : Nat) : rd_T83 l (j : Int) = l.getD j z83 := rfl
theorem S_ext {x y : S83} (h0 : x.f0 = y.f0) (h1 : x.f1 = y.f1) (h2 : x.f2.toList = y.f2.toList) : x = y := by
  obtain ⟨a, b, c⟩ := x
  obtain ⟨a', b', c'⟩ := y
  simp only at h0 h1 h2
  subst h0 h1
  rw [ByteArray.toList_eq, ByteArray.toList_eq] at h2
  have h3 : c.data = c'.data := Array.toList_inj.1 h2
  have h4 : c = c' := by
    obtain ⟨d⟩ := c
    obtain ⟨d'⟩ := c'
    simp only at h3
    rw [h3]
  rw [h4]
theorem ne_iff (x y : S83) : ((!(x.f0 == y.f0) || (!(x.f1 == y.f1) || (!(x.f2.toList == y.f2.toList)))) = true) ↔ x ≠ y := by
  constructor
  · rintro h rfl
    simp at h
  · intro h
    by_cases h0 : x.f0 = y.f0
    · by_cases h1 : x.f1 = y.f1
      · by_cases h2 : x.f2.toList = y.f2.toList
        · exact absurd (S_ext h0 h1 h2) h
        · simp [h2]
      · simp [h1]
    · simp [h0]
theorem list_same {α : Type} (d : α) {a b : List α} (hl : a.length = b.length) : (∀ j, j < a.length → a.getD j d = b.getD j d) ↔ a = b := by
  constructor
  · intro h
    apply List.ext_getElem hl
    intro i h1 h2
    have := h i h1
    rwa [List.getD_eq_getElem?_getD, List.getD_eq_getElem?_getD, List.getElem?_eq_getElem h1, List.getElem?_eq_getElem h2] at this
  · rintro rfl j _
    rfl
theorem spec_same (a b : List S83) (ha : a.length ≤ 1000000000) : ∃ t, (∀ k, a.length + 1 ≤ k → spec_l3Same.f k a b = some t) ∧ (t = true ↔ a = b) := by
  by_cases hl : a.length = b.length
  · obtain ⟨t, ht, ht'⟩ := scan_all (fun k i => spec_l3Same.l0 k a b i) a.length 0 (fun j => a.getD j z83 = b.getD j z83) true
      (by
        intro k j _ hj g
        show spec_l3Same.l0 (k + 1) a b j = _
        rw [spec_l3Same.l0, if_pos (by omega), if_pos (by omega), if_pos (by omega), rdV, rdV, if_neg (fun h => (ne_iff (a.getD j z83) (b.getD j z83)).1 h g), show wrap64 ((j : Int) + 1) = ((j + 1 : Nat) : Int) by rw [w64g (by omega)]; omega])
      (by
        intro k j _ hj g
        show spec_l3Same.l0 (k + 1) a b j = _
        rw [spec_l3Same.l0, if_pos (by omega), if_pos (by omega), if_pos (by omega), rdV, rdV, if_pos ((ne_iff (a.getD j z83) (b.getD j z83)).2 g)])
      (by
        intro k _
        show spec_l3Same.l0 (k + 1) a b a.length = _
        rw [spec_l3Same.l0, if_neg (by omega)])
    refine ⟨t, fun k hk => ?_, by rw [ht', list_same z83 hl]; simp⟩
    unfold spec_l3Same.f
    rw [if_pos (by omega)]
    exact ht k (by omega)
  · refine ⟨false, fun k hk => ?_, ⟨fun h => (by cases h), fun h => absurd (congrArg List.length h) hl⟩⟩
    unfold spec_l3Same.f
    rw [if_neg (by omega)]
theorem impl_same (a b : List S83) (ha : a.length ≤ 1000000000) : ∃ t, (∀ k, a.length + 1 ≤ k → impl_Value_50.f k a b = some t) ∧ (t = true ↔ a = b) := by
  by_cases hl : a.length = b.length
  · obtain ⟨t, ht, ht'⟩ := scan_all (fun k i => impl_Value_50.l0 k a b (a.length : Int) i) a.length 0 (fun j => a.getD j z83 = b.getD j z83) true
      (by
        intro k j _ hj g
        show impl_Value_50.l0 (k + 1) a b a.length j = _
        rw [impl_Value_50.l0, if_pos (by omega), if_pos (by omega), if_pos (by omega), if_pos (by omega), rdV, rdV, if_neg (fun h => (ne_iff (a.getD j z83) (b.getD j z83)).1 h g), show wrap64 ((j : Int) + 1) = ((j + 1 : Nat) : Int) by rw [w64g (by omega)]; omega])
      (by
        intro k j _ hj g
        show impl_Value_50.l0 (k + 1) a b a.length j = _
        rw [impl_Value_50.l0, if_pos (by omega), if_pos (by omega), if_pos (by omega), if_pos (by omega), rdV, rdV, if_pos ((ne_iff (a.getD j z83) (b.getD j z83)).2 g)])
      (by
        intro k _
        show impl_Value_50.l0 (k + 1) a b a.length a.length = _
        rw [impl_Value_50.l0, if_neg (by omega)])
    refine ⟨t, fun k hk => ?_, by rw [ht', list_same z83 hl]; simp⟩
    unfold impl_Value_50.f
    rw [if_pos (by omega)]
    exact ht k (by omega)
  · refine ⟨false, fun k hk => ?_, ⟨fun h => (by cases h), fun h => absurd (congrArg List.length h) hl⟩⟩
    unfold impl_Value_50.f
    rw [if_neg (by omega)]
abbrev ShortR (l : List (List S83)) : Prop := l.length ≤ 3000000 ∧ ∀ r ∈ l, r.length ≤ 1048576
theorem cnt_at (l : List (List S83)) (r : List S83) (j : Nat) (hj : j < l.length) (t : Bool) (ht : t = true ↔ l.getD j [] = r) : cnt (l.take (j + 1)) r = if t = true then cnt (l.take j) r + 1 else cnt (l.take j) r := by
  have e : l.getD j [] = l[j] := by rw [List.getD_eq_getElem?_getD, List.getElem?_eq_getElem hj]; rfl
  rw [e] at ht
  rw [cnt_take_succ l j hj]
  by_cases h : t = true
  · rw [if_pos h, if_pos (ht.1 h)]
  · rw [if_neg h, if_neg (fun g => h (ht.2 g))]
    rfl
theorem spec_many (l : List (List S83)) (r : List S83) (hl : ShortR l) : ∀ k, 5000000 ≤ k → spec_RowMany.f k l r = some (cnt l r : Int) := by
  intro k hk
  have hc := cnt_le l r
  have hl1 := hl.1
  have := go_all (fun k i => spec_RowMany.l0 k l r (cnt (l.take i.toNat) r : Int) i) l.length 1048578 1 (cnt l r : Int) ?_ ?_ k (by omega)
  · simp only [Int.toNat_zero, List.take_zero, cnt_nil] at this
    exact this
  · intro k j hk hj
    have hr := hl.2 _ (mem_getD l [] j hj)
    obtain ⟨t, ht, ht'⟩ := spec_same (l.getD j []) r (by omega)
    have e := cnt_at l r j hj t ht'
    have hcj := cnt_le (l.take (j + 1)) r
    have hcj2 := cnt_le (l.take j) r
    rw [List.length_take] at hcj hcj2
    show spec_RowMany.l0 (k + 1) l r (cnt (l.take (j : Int).toNat) r : Int) j = spec_RowMany.l0 k l r (cnt (l.take (((j + 1 : Nat) : Int)).toNat) r : Int) ((j + 1 : Nat) : Int)
    rw [Int.toNat_natCast, Int.toNat_natCast, spec_RowMany.l0, if_pos (by omega), if_pos (by omega)]
    show ((spec_l3Same.f k (l.getD j []) r).bind _) = _
    rw [ht k (by omega), Option.bind_some, show wrap64 ((j : Int) + 1) = ((j + 1 : Nat) : Int) by rw [w64g (by omega)]; omega, e]
    by_cases h : t = true
    · rw [if_pos h, if_pos h, w64g (by omega)]
      rfl
    · rw [if_neg h, if_neg h]
  · intro k hk
    show spec_RowMany.l0 (k + 1) l r (cnt (l.take (l.length : Int).toNat) r : Int) l.length = _
    rw [spec_RowMany.l0, if_neg (by omega), Int.toNat_natCast, List.take_length]
theorem impl_many (l : List (List S83)) (r : List S83) (hl : ShortR l) : ∀ k, 5000000 ≤ k → impl_RowMany.f k l r = some (cnt l r : Int) := by
  intro k hk
  have hc := cnt_le l r
  have hl1 := hl.1
  have := go_all (fun k i => impl_RowMany.l0 k r (cnt (l.take i.toNat) r : Int) l (l.length : Int) i) l.length 1048578 1 (cnt l r : Int) ?_ ?_ k (by omega)
  · simp only [Int.toNat_zero, List.take_zero, cnt_nil] at this
    exact this
  · intro k j hk hj
    have hr := hl.2 _ (mem_getD l [] j hj)
    obtain ⟨t, ht, ht'⟩ := impl_same (l.getD j []) r (by omega)
    have e := cnt_at l r j hj t ht'
    have hcj := cnt_le (l.take (j + 1)) r
    have hcj2 := cnt_le (l.take j) r
    rw [List.length_take] at hcj hcj2
    show impl_RowMany.l0 (k + 1) r (cnt (l.take (j : Int).toNat) r : Int) l l.length j = impl_RowMany.l0 k r (cnt (l.take (((j + 1 : Nat) : Int)).toNat) r : Int) l l.length ((j + 1 : Nat) : Int)
    rw [Int.toNat_natCast, Int.toNat_natCast, impl_RowMany.l0, if_pos (by omega), if_pos (by omega), if_pos (by omega)]
    show ((impl_Value_50.f k (l.getD j []) r).bind _) = _
    rw [ht k (by omega), Option.bind_some, show wrap64 ((j : Int) + 1) = ((j + 1 : Nat) : Int) by rw [w64g (by omega)]; omega, e]
    by_cases h : t = true
    · rw [if_pos h, if_pos h, w64g (by omega)]
      rfl
    · rw [if_neg h, if_neg h]
  · intro k hk
    show impl_RowMany.l0 (k + 1) r (cnt (l.take (l.length : Int).toNat) r : Int) l l.length l.length = _
    rw [impl_RowMany.l0, if_neg (by omega), Int.toNat_natCast, List.take_length]
theorem rdL (l : List (List S83)) (j : Nat) : rd_L4 l (j : Int) = l.getD j [] := rfl
theorem own_eq (r : List S83) (h : r.length ≤ 1048576) : spec_l3Own.f r = some r := by
  unfold spec_l3Own.f
  rw [Option.bind_some, if_pos (by simp only [List.length_nil]; omega), List.nil_append]
theorem once_short (l : List (List S83)) (hl : l.length ≤ 1048576) (hr : ∀ r ∈ l, r.length ≤ 1048576) (j : Nat) : (once (l.take j)).length ≤ 1048576 ∧ ShortR (once (l.take j)) := by
  obtain ⟨_, h2, h3⟩ := once_all (l.take j)
  have : (l.take j).length ≤ l.length := by rw [List.length_take]; omega
  exact ⟨by omega, by omega, fun r h => hr r (List.take_subset _ _ ((h2 r).1 h))⟩
theorem once_take_succ (l : List (List S83)) (j : Nat) (hj : j < l.length) : once (l.take (j + 1)) = onceStep (once (l.take j)) (l.getD j []) := by
  rw [List.take_succ_eq_append_getElem hj, once_snoc]
  congr 1
  rw [List.getD_eq_getElem?_getD, List.getElem?_eq_getElem hj]
  rfl
theorem copy_eq (l : List (List S83)) (hl : l.length ≤ 1048576) (hr : ∀ r ∈ l, r.length ≤ 1048576) : impl_rowsCopy.f l = some l := by
  unfold impl_rowsCopy.f
  rw [if_pos ⟨by omega, fun r h => by have := hr r h; omega⟩]
theorem impl_once (l : List (List S83)) (hl : l.length ≤ 1048576) (hr : ∀ r ∈ l, r.length ≤ 1048576) : ∀ k, 10000000 ≤ k → impl_RowsOnce.f k l = some (once l) := by
  intro k hk
  have := go_all (fun k i => impl_RowsOnce.l0 k (once (l.take i.toNat)) l (l.length : Int) i) l.length 5000000 1 (once l) ?_ ?_ k (by omega)
  · first | (unfold spec_RowsOnce.f; simpa [once] using this) | (unfold impl_RowsOnce.f; simpa [once] using this)
  · intro k j hk hj
    have hrj := hr _ (mem_getD l [] j hj)
    obtain ⟨h1, h2⟩ := once_short l hl hr j
    show impl_RowsOnce.l0 (k + 1) (once (l.take (j : Int).toNat)) l (l.length : Int) (j : Int) = impl_RowsOnce.l0 k (once (l.take ((j + 1 : Nat) : Int).toNat)) l (l.length : Int) ((j + 1 : Nat) : Int)
    rw [Int.toNat_natCast, Int.toNat_natCast, impl_RowsOnce.l0, if_pos (by omega), if_pos (by omega), if_pos (by omega), rdL]
    unfold impl_rowsHas.f
    rw [impl_many _ _ h2 k (by omega), Option.bind_some, Option.bind_some, show wrap64 ((j : Int) + 1) = ((j + 1 : Nat) : Int) by rw [w64g (by omega)]; omega, once_take_succ l j hj]
    unfold onceStep
    by_cases h : cnt (once (l.take j)) (l.getD j []) = 0
    · rw [if_neg (by rw [decide_eq_true_iff]; omega), if_pos h, if_pos (by omega)]
    · rw [if_pos (by rw [decide_eq_true_iff]; omega), if_neg h]
  · intro k _
    obtain ⟨h1, h2⟩ := once_short l hl hr l.length
    rw [List.take_length] at h1 h2
    show impl_RowsOnce.l0 (k + 1) (once (l.take (l.length : Int).toNat)) l (l.length : Int) (l.length : Int) = _
    rw [impl_RowsOnce.l0, if_neg (by omega), Int.toNat_natCast, List.take_length, copy_eq _ h1 h2.2, Option.bind_some]

end Go.Proofs.Ytalhkihppcjanaa.Pure
set_option linter.unusedVariables false
set_option linter.unusedSimpArgs false
namespace Go.Proofs.Ytalhkihppcjanaa.Pure
open Go.RowKit Go.Proofs.Ytalhkihppcjanaa.X Go.Proofs.YtalhkihppcjanaaV.PrintWords Go.Proofs.YtalhkihppcjanaaV.PrintLast Go.Proofs.YtalhkihppcjanaaV.PrintMore

theorem cols_pos_loop {s : List Int} (hs : Bytes s) (n : Int) (hn : n ≤ 1000) : ∀ (d : Nat) (l : List S113) (p : Int), 0 ≤ p → p + 2 * d ≤ 90000 → d ≤ 6 → l.length + d ≤ 6 →
    ∃ r p', (∀ k, d + 3 ≤ k → spec_l20Columns.l0 k n l (d : Int) s p = some (r, p')) ∧ r.length ≤ 10 ∧ l.length + d ≤ r.length ∧ 0 ≤ p' ∧ p' ≤ p + 2 * d + 2 := by
  intro d
  induction d with
  | zero =>
    intro l p hp hp2 _ hz
    obtain ⟨b, p1, hb, h0, h1, _⟩ := odd_ok hs p n hp (by omega) (by omega)
    cases b with
    | false =>
      refine ⟨l, p1, fun k hk => ?_, by omega, by omega, by omega, by omega⟩
      obtain ⟨k, rfl⟩ : ∃ m, k = m + 1 := ⟨k - 1, by omega⟩
      rw [spec_l20Columns.l0, if_neg (by decide), hb k (by omega), Option.bind_some]
      rfl
    | true =>
      obtain ⟨c, hc, _⟩ := pick_ok hs p1 6 h0 (by omega) (by decide)
      refine ⟨l ++ [⟨wrap64 (c - 1), false⟩, ⟨1, false⟩, ⟨1, false⟩], p1 + 1, fun k hk => ?_, by rw [List.length_append]; simp; omega, by rw [List.length_append]; simp, by omega, by omega⟩
      obtain ⟨k, rfl⟩ : ∃ m, k = m + 1 := ⟨k - 1, by omega⟩
      rw [spec_l20Columns.l0, if_neg (by decide), hb k (by omega), Option.bind_some, if_pos rfl, hc k (by omega), Option.bind_some, Option.bind_some, if_pos (by simp only [List.length_cons, List.length_nil]; omega)]
  | succ d ih =>
    intro l p hp hp2 hd hz
    obtain ⟨c, hc, c0, c1, _⟩ := pick_ok hs p 4 hp (by omega) (by decide)
    have c1 := c1 (by decide)
    obtain ⟨c2, hc2, _⟩ := pick_ok hs (p + 1) 3 (by omega) (by omega) (by decide)
    obtain ⟨r, p', hr, h2, h5, h3, h4⟩ := ih (l ++ [⟨rd [1, 1, 2, 3] c, decide (c2 > 0)⟩]) (p + 1 + 1) (by omega) (by omega) (by omega) (by rw [List.length_append]; simp; omega)
    rw [List.length_append, List.length_singleton] at h5
    refine ⟨r, p', fun k hk => ?_, h2, by omega, h3, by omega⟩
    obtain ⟨k, rfl⟩ : ∃ m, k = m + 1 := ⟨k - 1, by omega⟩
    rw [spec_l20Columns.l0, if_pos (by omega), Option.bind_some, hc k (by omega), Option.bind_some, if_pos c0, if_pos (show c < (([1, 1, 2, 3] : List Int).length : Int) from c1), hc2 k (by omega), Option.bind_some, if_pos (by omega), show wrap64 (((d + 1 : Nat) : Int) - 1) = (d : Int) by rw [w64g (by omega)]; omega]
    exact hr k (by omega)
theorem draw_cols_pos {s : List Int} (hb : Bytes s) (p n : Int) (hp : 0 ≤ p) (hp2 : p ≤ 80000) (hn : n ≤ 1000) : ∃ r p', (∀ k, 20 ≤ k → spec_l20Columns.f k s p n = some (r, p')) ∧ r.length ≤ 10 ∧ 1 ≤ r.length ∧ 0 ≤ p' ∧ p' ≤ p + 20 := by
  obtain ⟨c, hc, c0, c1, _⟩ := pick_ok hb p 3 hp (by omega) (by decide)
  have c1 := c1 (by decide)
  obtain ⟨e, rfl⟩ := Int.eq_ofNat_of_zero_le c0
  obtain ⟨r, p', hr, h2, h5, h3, h4⟩ := cols_pos_loop hb n hn (e + 1) [] (p + 1) (by omega) (by omega) (by omega) (by simp; omega)
  refine ⟨r, p', fun k hk => ?_, h2, by omega, h3, by omega⟩
  unfold spec_l20Columns.f
  rw [hc k (by omega), Option.bind_some, show wrap64 (1 + (e : Int)) = ((e + 1 : Nat) : Int) by rw [w64g (by omega)]; omega]
  exact hr k (by omega)
theorem fit_endP {s : List Int} (hs : Bytes s) (c : List S113) (m : Int) (hm : m ≤ 1000) (x7 : List S83) (p : Int) (hp : 0 ≤ p) (hp2 : p ≤ 50000) (hx : x7.length ≤ 10) :
    ∃ r p', (∀ k, 40 ≤ k → spec_l20Fit.l0 k c m x7 (c.length : Int) s p = some (r, p')) ∧ r.length ≤ 20 ∧ 0 ≤ p' ∧ p' ≤ p + 70 := by
  obtain ⟨b, p1, hb, h0, h1, _⟩ := odd_ok hs p m hp (by omega) (by omega)
  cases b with
  | false =>
    refine ⟨x7, p1, fun k hk => ?_, by omega, h0, by omega⟩
    obtain ⟨k, rfl⟩ : ∃ m, k = m + 1 := ⟨k - 1, by omega⟩
    rw [spec_l20Fit.l0, if_neg (by omega), hb k (by omega), Option.bind_some, if_neg Bool.false_ne_true]
  | true =>
    obtain ⟨q, hq, _⟩ := pick_ok hs p1 3 h0 (by omega) (by decide)
    by_cases e0 : q = 0
    · refine ⟨x7 ++ [⟨0, 0, ⟨#[]⟩⟩], p1 + 1, fun k hk => ?_, by rw [List.length_append]; simp; omega, by omega, by omega⟩
      obtain ⟨k, rfl⟩ : ∃ m, k = m + 1 := ⟨k - 1, by omega⟩
      rw [spec_l20Fit.l0, if_neg (by omega), hb k (by omega), Option.bind_some, if_pos rfl, hq k (by omega), Option.bind_some, if_pos e0, if_pos (by omega)]
    by_cases e1 : q = 1
    · by_cases e2 : (x7.length : Int) > 0
      · obtain ⟨i, hi, i0, i1, _⟩ := pick_ok hs (p1 + 1) (x7.length : Int) (by omega) (by omega) (by omega)
        have i1 := i1 (by omega)
        obtain ⟨t, n, x, p2, hk2, a2, b2, hx2⟩ := draw_ok hs (p1 + 1 + 1) 3 (by omega) (by omega) (by decide)
        refine ⟨x7.set i.toNat ⟨t, n, x⟩, p2, fun k hk => ?_, by rw [List.length_set]; omega, by omega, by omega⟩
        obtain ⟨k, rfl⟩ : ∃ m, k = m + 1 := ⟨k - 1, by omega⟩
        have hd : spec_l20Value.f k s (p1 + 1 + 1) 3 = some (t, n, x, p2) := hk2 k (by omega)
        rw [spec_l20Fit.l0, if_neg (by omega), hb k (by omega), Option.bind_some, if_pos rfl, hq k (by omega), Option.bind_some, if_neg e0, if_pos e1, if_pos e2, hi k (by omega), Option.bind_some, hd, Option.bind_some, if_pos i0, if_pos i1]
      · refine ⟨x7, p1 + 1, fun k hk => ?_, by omega, by omega, by omega⟩
        obtain ⟨k, rfl⟩ : ∃ m, k = m + 1 := ⟨k - 1, by omega⟩
        rw [spec_l20Fit.l0, if_neg (by omega), hb k (by omega), Option.bind_some, if_pos rfl, hq k (by omega), Option.bind_some, if_neg e0, if_pos e1, if_neg e2]
    · obtain ⟨t, n, x, p2, hk2, a2, b2, hx2⟩ := draw_ok hs (p1 + 1) 0 (by omega) (by omega) (by decide)
      obtain ⟨t3, n3, x3, p3, hk3, a3, b3, hx3⟩ := draw_ok hs p2 0 (by omega) (by omega) (by decide)
      obtain ⟨t4, n4, x4, p4, hk4, a4, b4, hx4⟩ := draw_ok hs p3 0 (by omega) (by omega) (by decide)
      refine ⟨x7 ++ [⟨t, n, x⟩, ⟨t3, n3, x3⟩, ⟨t4, n4, x4⟩], p4, fun k hk => ?_, by rw [List.length_append]; simp; omega, by omega, by omega⟩
      obtain ⟨k, rfl⟩ : ∃ m, k = m + 1 := ⟨k - 1, by omega⟩
      have hd2 : spec_l20Value.f k s (p1 + 1) 0 = some (t, n, x, p2) := hk2 k (by omega)
      have hd3 : spec_l20Value.f k s p2 0 = some (t3, n3, x3, p3) := hk3 k (by omega)
      have hd4 : spec_l20Value.f k s p3 0 = some (t4, n4, x4, p4) := hk4 k (by omega)
      rw [spec_l20Fit.l0, if_neg (by omega), hb k (by omega), Option.bind_some, if_pos rfl, hq k (by omega), Option.bind_some, if_neg e0, if_neg e1, hd2, Option.bind_some, hd3, Option.bind_some, hd4, Option.bind_some, Option.bind_some, if_pos (by simp only [List.length_cons, List.length_nil]; omega)]
theorem fit_loopP {s : List Int} (hs : Bytes s) (c : List S113) (hc : c.length ≤ 10) (m : Int) (hm : m ≤ 1000) : ∀ (d i : Nat) (x7 : List S83) (p : Int), i + d = c.length → 0 ≤ p → p + 2 * d ≤ 40000 → x7.length ≤ i →
    ∃ r p', (∀ k, d + 40 ≤ k → spec_l20Fit.l0 k c m x7 (i : Int) s p = some (r, p')) ∧ r.length ≤ 20 ∧ 0 ≤ p' ∧ p' ≤ p + 2 * d + 70 := by
  intro d
  induction d with
  | zero =>
    intro i x7 p hi hp hp2 hx
    have hi : i = c.length := by omega
    subst hi
    obtain ⟨r, p', h1, h2, h3, h4⟩ := fit_endP hs c m hm x7 p hp (by omega) (by omega)
    exact ⟨r, p', fun k hk => h1 k (by omega), h2, h3, by omega⟩
  | succ d ih =>
    intro i x7 p hi hp hp2 hx
    obtain ⟨t, n, x, p1, hk1, a1, b1, hx1⟩ := like_ok hs p hp (by omega) ((rd_T113 c i).f0) ((rd_T113 c i).f1)
    obtain ⟨r, p', h1, h2, h3, h4⟩ := ih (i + 1) (x7 ++ [⟨t, n, x⟩]) p1 (by omega) (by omega) (by omega) (by rw [List.length_append]; simp; omega)
    refine ⟨r, p', fun k hk => ?_, h2, h3, by omega⟩
    obtain ⟨k, rfl⟩ : ∃ m, k = m + 1 := ⟨k - 1, by omega⟩
    have hd : spec_l20Like.f k s p ((rd_T113 c i).f0) ((rd_T113 c i).f1) = some (t, n, x, p1) := hk1 k (by omega)
    rw [spec_l20Fit.l0, if_pos (by omega), if_pos (by omega), hd, Option.bind_some, if_pos (by omega), show wrap64 ((i : Int) + 1) = ((i + 1 : Nat) : Int) by rw [w64g (by omega)]; omega]
    exact h1 k (by omega)
theorem draw_fitP {s : List Int} (hs : Bytes s) (c : List S113) (hc : c.length ≤ 10) (m : Int) (hm : m ≤ 1000) (p : Int) (hp : 0 ≤ p) (hp2 : p ≤ 30000) :
    ∃ r p', (∀ k, 60 ≤ k → spec_l20Fit.f k s p c m = some (r, p')) ∧ r.length ≤ 20 ∧ 0 ≤ p' ∧ p' ≤ p + 90 := by
  obtain ⟨r, p', h1, h2, h3, h4⟩ := fit_loopP hs c hc m hm c.length 0 [] p (by omega) hp (by omega) (by simp)
  exact ⟨r, p', fun k hk => h1 k (by omega), h2, h3, by omega⟩
def RowsIn (l : List (List S83)) : Prop := l.length ≤ 10 ∧ ∀ r ∈ l, r.length ≤ 20
theorem rowsIn_snoc {l : List (List S83)} {r : List S83} (h : ∀ r ∈ l, r.length ≤ 20) (hr : r.length ≤ 20) : ∀ x ∈ l ++ [r], x.length ≤ 20 := by
  intro x hx
  rcases List.mem_append.1 hx with g | g
  · exact h x g
  · rw [List.mem_singleton.1 g]; exact hr
theorem bag_loop {s : List Int} (hs : Bytes s) (c : List S113) (hc : c.length ≤ 10) (m : Int) (hm : m ≤ 1000) : ∀ (d : Nat) (x7 : List (List S83)) (p : Int), x7.length + d ≤ 10 → (∀ r ∈ x7, r.length ≤ 20) → 0 ≤ p → p + 100 * d ≤ 20000 →
    ∃ r p', (∀ k, 2 * d + 70 ≤ k → spec_l20Bag.l0 k c m x7 (d : Int) s p = some (r, p')) ∧ RowsIn r ∧ 0 ≤ p' ∧ p' ≤ p + 100 * d := by
  intro d
  induction d with
  | zero =>
    intro x7 p hl hx hp hp2
    refine ⟨x7, p, fun k hk => ?_, ⟨by omega, hx⟩, hp, by omega⟩
    obtain ⟨k, rfl⟩ : ∃ m, k = m + 1 := ⟨k - 1, by omega⟩
    rw [spec_l20Bag.l0, if_neg (by decide)]
  | succ d ih =>
    intro x7 p hl hx hp hp2
    have hw : wrap64 (((d + 1 : Nat) : Int) - 1) = (d : Int) := by rw [w64g (by omega)]; omega
    -- a row anew
    have anew : ∀ p1, 0 ≤ p1 → p1 ≤ p + 1 → ∃ r p', (∀ k, 2 * d + 71 ≤ k → spec_l20Bag.j1 k c m x7 ((d + 1 : Nat) : Int) false s p1 = some (r, p')) ∧ RowsIn r ∧ 0 ≤ p' ∧ p' ≤ p + 100 * ((d + 1 : Nat) : Int) := by
      intro p1 h0 h1
      obtain ⟨q, p2, hq, hql, h2, h3⟩ := draw_fitP hs c hc m hm p1 h0 (by omega)
      obtain ⟨r, p', hr, hr1, h4, h5⟩ := ih (x7 ++ [q]) p2 (by rw [List.length_append, List.length_singleton]; omega) (rowsIn_snoc hx hql) h2 (by omega)
      refine ⟨r, p', fun k hk => ?_, hr1, h4, by omega⟩
      obtain ⟨k, rfl⟩ : ∃ m, k = m + 1 := ⟨k - 1, by omega⟩
      rw [spec_l20Bag.j1, if_neg (by decide), hq k (by omega), Option.bind_some, if_pos (by omega), hw]
      exact hr k (by omega)
    by_cases h0 : (x7.length : Int) > 0
    · obtain ⟨b, hb, _⟩ := pick_ok hs p 3 hp (by omega) (by decide)
      by_cases e : b = 0
      · subst e
        obtain ⟨i, hi, i0, i1, _⟩ := pick_ok hs (p + 1) (x7.length : Int) (by omega) (by omega) (by omega)
        have i1 := i1 (by omega)
        obtain ⟨j, rfl⟩ := Int.eq_ofNat_of_zero_le i0
        have hj := hx _ (mem_getD x7 [] j (by omega))
        obtain ⟨r, p', hr, hr1, h4, h5⟩ := ih (x7 ++ [x7.getD j []]) (p + 1 + 1) (by rw [List.length_append, List.length_singleton]; omega) (rowsIn_snoc hx hj) (by omega) (by omega)
        refine ⟨r, p', fun k hk => ?_, hr1, h4, by omega⟩
        obtain ⟨k, rfl⟩ : ∃ m, k = m + 1 + 1 := ⟨k - 2, by omega⟩
        rw [spec_l20Bag.l0, if_pos (by omega), if_pos h0, hb _ (by omega), Option.bind_some, spec_l20Bag.j1, if_pos (by rfl), hi k (by omega), Option.bind_some, if_pos i0, if_pos i1, rdL, own_eq _ (by omega), Option.bind_some, if_pos (by omega), hw]
        exact hr k (by omega)
      · obtain ⟨r, p', hr, hr1, h4, h5⟩ := anew (p + 1) (by omega) (by omega)
        refine ⟨r, p', fun k hk => ?_, hr1, h4, h5⟩
        obtain ⟨k, rfl⟩ : ∃ m, k = m + 1 := ⟨k - 1, by omega⟩
        rw [spec_l20Bag.l0, if_pos (by omega), if_pos h0, hb _ (by omega), Option.bind_some, show (b == 0) = false from beq_eq_false_iff_ne.2 e]
        exact hr k (by omega)
    · obtain ⟨r, p', hr, hr1, h4, h5⟩ := anew p hp (by omega)
      refine ⟨r, p', fun k hk => ?_, hr1, h4, h5⟩
      obtain ⟨k, rfl⟩ : ∃ m, k = m + 1 := ⟨k - 1, by omega⟩
      rw [spec_l20Bag.l0, if_pos (by omega), if_neg h0]
      exact hr k (by omega)
theorem draw_bag {s : List Int} (hs : Bytes s) (c : List S113) (hc : c.length ≤ 10) (m : Int) (hm : m ≤ 1000) (p : Int) (hp : 0 ≤ p) (hp2 : p ≤ 10000) :
    ∃ r p', (∀ k, 100 ≤ k → spec_l20Bag.f k s p c m = some (r, p')) ∧ RowsIn r ∧ 0 ≤ p' ∧ p' ≤ p + 800 := by
  obtain ⟨n, hn, n0, n1, _⟩ := pick_ok hs p 7 hp (by omega) (by decide)
  have n1 := n1 (by decide)
  obtain ⟨d, rfl⟩ := Int.eq_ofNat_of_zero_le n0
  obtain ⟨r, p', hr, h1, h2, h3⟩ := bag_loop hs c hc m hm d [] (p + 1) (by simp; omega) (fun r h => by cases h) (by omega) (by omega)
  refine ⟨r, p', fun k hk => ?_, h1, h2, by omega⟩
  unfold spec_l20Bag.f
  rw [hn k (by omega), Option.bind_some]
  exact hr k (by omega)

end Go.Proofs.Ytalhkihppcjanaa.Pure
set_option linter.unusedVariables false
set_option linter.unusedSimpArgs false
namespace Go.Proofs.Ytalhkihppcjanaa.Pure
open Go.RowKit Go.Proofs.Ytalhkihppcjanaa.X Go.Proofs.YtalhkihppcjanaaV.PrintWords Go.Proofs.YtalhkihppcjanaaV.PrintLast Go.Proofs.YtalhkihppcjanaaV.PrintMore

theorem alive_eq : laws_alive.f = some true := by decide +kernel

end Go.Proofs.Ytalhkihppcjanaa.Pure
set_option linter.unusedVariables false
set_option linter.unusedSimpArgs false
namespace Go.Proofs.Ytalhkihppcjanaa.Pure
open Go.RowKit Go.Proofs.Ytalhkihppcjanaa.X Go.Proofs.YtalhkihppcjanaaV.PrintWords Go.Proofs.YtalhkihppcjanaaV.PrintLast Go.Proofs.YtalhkihppcjanaaV.PrintMore

theorem sum_snoc (l : List (List S83)) (o : List (List S83)) (j : Nat) (hj : j < o.length) : ((o.take (j + 1)).map (cnt l)).sum = ((o.take j).map (cnt l)).sum + cnt l (o.getD j []) := by
  rw [List.take_succ_eq_append_getElem hj, List.map_append, List.sum_append]
  have : o.getD j [] = o[j] := by rw [List.getD_eq_getElem?_getD, List.getElem?_eq_getElem hj]; rfl
  rw [this]
  simp
theorem sum_bound (l : List (List S83)) : ∀ o : List (List S83), (o.map (cnt l)).sum ≤ o.length * l.length
  | [] => by simp
  | a :: t => by
    have h1 := sum_bound l t
    have h2 := cnt_le l a
    rw [List.map_cons, List.sum_cons, List.length_cons, Nat.add_mul, Nat.one_mul]
    omega
theorem FnRowMany : laws_FnRowMany.Pure := by
  intro l hl
  obtain ⟨s, hs, hby⟩ := open_ok hl.2
  obtain ⟨c, p', hc, hcl, hc1, hp', hp2⟩ := draw_cols_pos hby 0 0 (by decide) (by decide) (by decide)
  have hcl1 : (c.take 1).length ≤ 10 := by rw [List.length_take]; omega
  obtain ⟨b, p2, hb, hbr, hb0, hb1⟩ := draw_bag hby (c.take 1) hcl1 20 (by decide) p' hp' (by omega)
  obtain ⟨r, p3, hr, hrl, _, _⟩ := draw_fitP hby (c.take 1) hcl1 20 (by decide) p2 hb0 (by omega)
  obtain ⟨hbl, hbs⟩ := hbr
  obtain ⟨K, hK⟩ : ∃ K, 20000000 ≤ K := ⟨_, Nat.le_refl _⟩
  refine ⟨K, ?_⟩
  unfold laws_FnRowMany.f
  by_cases h : (l.length : Int) > 1048576
  · rw [if_pos h]
  have hs2 : ∀ x ∈ b, x.length ≤ 1048576 := fun x hx => by have := hbs x hx; omega
  have hsh : ShortR b := ⟨by omega, hs2⟩
  have hd : spec_DrawRowMany.f K l = some (b, r) := by
    unfold spec_DrawRowMany.f
    rw [hs, Option.bind_some]
    show ((spec_l20Columns.f K s 0 0).bind _) = _
    rw [hc _ (by omega), Option.bind_some, if_pos (show 1 ≤ (c, p').1.length from hc1)]
    show ((spec_l20Bag.f K s p' (c.take 1) 20).bind _) = _
    rw [hb _ (by omega), Option.bind_some]
    show ((spec_l20Fit.f K s p2 (c.take 1) 20).bind _) = _
    rw [hr _ (by omega), Option.bind_some]
  have hh : wrap64 ((b.length : Int) / 2) = ((b.length / 2 : Nat) : Int) := by rw [w64g (by omega)]; omega
  rw [if_neg h, hd, Option.bind_some]
  show ((impl_RowMany.f K b r).bind fun t477 => ((spec_RowMany.f K b r).bind fun t478 => (if t477 = t478 then ((impl_RowsOnce.f K b).bind fun t479 => (laws_FnRowMany.l0 K b r t477 (wrap64 ((b.length : Int) / 2)) t479 0 0)) else (some false)))) = _
  rw [impl_many b r hsh _ (by omega), Option.bind_some, spec_many b r hsh _ (by omega), Option.bind_some, if_pos rfl, impl_once b (by omega) hs2 _ (by omega), Option.bind_some, hh]
  have hol := (once_all b).2.2
  have hsb : ∀ j, ((((once b).take j).map (cnt b)).sum) ≤ 100 := fun j => by
    have h1 := sum_bound b ((once b).take j)
    have h2 : ((once b).take j).length ≤ 10 := by rw [List.length_take]; omega
    have h3 := Nat.mul_le_mul h2 hbl
    omega
  have hfin : ∀ k, 6000000 ≤ k → laws_FnRowMany.l0 (k + 1) b r (cnt b r : Int) ((b.length / 2 : Nat) : Int) (once b) (((once b).map (cnt b)).sum : Int) ((once b).length : Int) = some true := by
    intro k hk
    have e1 : cnt b r = cnt (b.take (b.length / 2)) r + cnt (b.drop (b.length / 2)) r := by rw [← cnt_append, List.take_append_drop]
    have h1 := cnt_le (b.take (b.length / 2)) r
    have h2 := cnt_le (b.drop (b.length / 2)) r
    rw [List.length_take] at h1
    rw [List.length_drop] at h2
    have s1 : ShortR (b.take (b.length / 2)) := ⟨by rw [List.length_take]; omega, fun x hx => hs2 x (List.take_subset _ _ hx)⟩
    have s2 : ShortR (b.drop (b.length / 2)) := ⟨by rw [List.length_drop]; omega, fun x hx => hs2 x (List.drop_subset _ _ hx)⟩
    rw [laws_FnRowMany.l0, if_neg (by omega), Option.bind_some, if_pos (by omega), if_pos (by omega), Option.bind_some, Int.toNat_natCast, if_pos (by simp only [List.length_nil, List.length_take]; omega), List.nil_append, impl_many _ r s1 k (by omega), Option.bind_some, Option.bind_some, Option.bind_some, if_pos (by simp only [List.length_nil, List.length_drop]; omega), List.nil_append, impl_many _ r s2 k (by omega), Option.bind_some, once_sum, if_pos (by rw [w64g (by omega)]; omega), if_pos rfl, alive_eq]
    rfl
  have := go_all (fun k i => laws_FnRowMany.l0 k b r (cnt b r : Int) ((b.length / 2 : Nat) : Int) (once b) ((((once b).take i.toNat).map (cnt b)).sum : Int) i) (once b).length 6000000 1 true ?_ ?_ K (by omega)
  · simpa using this
  · intro k j hk hj
    have b1 := hsb j
    have b2 := hsb (j + 1)
    show laws_FnRowMany.l0 (k + 1) b r (cnt b r : Int) ((b.length / 2 : Nat) : Int) (once b) ((((once b).take (j : Int).toNat).map (cnt b)).sum : Int) (j : Int) = laws_FnRowMany.l0 k b r (cnt b r : Int) ((b.length / 2 : Nat) : Int) (once b) ((((once b).take ((j + 1 : Nat) : Int).toNat).map (cnt b)).sum : Int) ((j + 1 : Nat) : Int)
    have e := sum_snoc b (once b) j hj
    rw [Int.toNat_natCast, Int.toNat_natCast, laws_FnRowMany.l0, if_pos (by omega), if_pos (by omega), rdL, impl_many b _ hsh k (by omega), Option.bind_some, show wrap64 ((j : Int) + 1) = ((j + 1 : Nat) : Int) by rw [w64g (by omega)]; omega, w64g (n := (((((once b).take j).map (cnt b)).sum : Nat) : Int) + (cnt b ((once b).getD j []) : Int)) (by omega), show (((((once b).take j).map (cnt b)).sum : Nat) : Int) + (cnt b ((once b).getD j []) : Int) = (((((once b).take (j + 1)).map (cnt b)).sum : Nat) : Int) by omega]
  · intro k hk
    show laws_FnRowMany.l0 (k + 1) b r (cnt b r : Int) ((b.length / 2 : Nat) : Int) (once b) ((((once b).take ((once b).length : Int).toNat).map (cnt b)).sum : Int) ((once b).length : Int) = _
    rw [Int.toNat_natCast, List.take_length]
    exact hfin k hk

end Go.Proofs.Ytalhkihppcjanaa.Pure
