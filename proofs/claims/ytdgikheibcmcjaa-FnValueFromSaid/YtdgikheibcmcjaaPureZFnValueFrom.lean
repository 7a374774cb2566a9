/- What is read off a list of bytes is what its bytes say, and a shorter list tells nothing: FnValueFrom returns true for every list of bytes; no condition. -/
import Derived.Test.YtdgikheibcmcjaaUMore
import Derived.Test.YtdgikheibcmcjaaUX0
import Derived.Test.YtdgikheibcmcjaaZFnValueFrom8
set_option linter.unusedVariables false
set_option linter.unusedSimpArgs false
namespace Go.Proofs.Ytdgikheibcmcjaa.Pure
open Go.RowKit Go.Proofs.Ytdgikheibcmcjaa.X Go.Proofs.YtdgikheibcmcjaaV.PrintWords Go.Proofs.YtdgikheibcmcjaaV.PrintLast Go.Proofs.YtdgikheibcmcjaaV.PrintMore

theorem w64 {n : Int} (h : -9223372036854775808 ≤ n ∧ n ≤ 9223372036854775807) : wrap64 n = n := by unfold wrap64; omega
theorem xor_range (a b : Int) (ha : 0 ≤ a) (ha2 : a < 4294967296) (hb : 0 ≤ b) (hb2 : b < 4294967296) : 0 ≤ Go.bits .xor .i64 a b ∧ Go.bits .xor .i64 a b < 4294967296 := by
  obtain ⟨x, rfl⟩ := Int.eq_ofNat_of_zero_le ha
  obtain ⟨y, rfl⟩ := Int.eq_ofNat_of_zero_le hb
  have hx : x < 2 ^ 32 := by omega
  have hy : y < 2 ^ 32 := by omega
  have h1 : x % 2 ^ IntKind.i64.bits = x := Nat.mod_eq_of_lt (Nat.lt_of_lt_of_le hx (by decide))
  have h2 : y % 2 ^ IntKind.i64.bits = y := Nat.mod_eq_of_lt (Nat.lt_of_lt_of_le hy (by decide))
  have hz : x ^^^ y < 2 ^ 32 := Nat.xor_lt_two_pow hx hy
  have e : Go.bits .xor .i64 (x : Int) (y : Int) = ((x ^^^ y : Nat) : Int) := by
    simp only [Go.bits, BitVec.ofInt_natCast, BitVec.toNat_xor, BitVec.toNat_ofNat, h1, h2]
    rw [IntKind.wrap_i64]
    omega
  rw [e]
  omega
/-- At most 2000 bytes. -/
def Bytes (s : List Int) : Prop := s.length ≤ 2000 ∧ ∀ x ∈ s, 0 ≤ x ∧ x ≤ 255
theorem rd_byte {s : List Int} (hs : Bytes s) (i : Int) : 0 ≤ rd s i ∧ rd s i ≤ 255 := by
  unfold rd
  rw [List.getD_eq_getElem?_getD]
  cases h : s[i.toNat]? with
  | none => simp
  | some x => exact hs.2 x (List.mem_of_getElem? h)
theorem tmod_range {a b : Int} (ha : 0 ≤ a) (hb : 0 < b) : 0 ≤ Int.tmod a b ∧ Int.tmod a b < b := by
  rw [Int.tmod_eq_emod_of_nonneg ha]
  exact ⟨Int.emod_nonneg a (by omega), Int.emod_lt_of_pos a hb⟩
theorem pick_ok {s : List Int} (hs : Bytes s) (p n : Int) (hp : 0 ≤ p) (hp2 : p ≤ 1000000) (hn2 : n ≤ 1000000) :
    ∃ r, (∀ k, 1 ≤ k → spec_l20Rd_pick.f k s p n = some (r, p + 1)) ∧ 0 ≤ r ∧ (1 ≤ n → r < n) ∧ (n < 1 → r = 0) := by
  have e1 : wrap64 (p + 1) = p + 1 := w64 (by omega)
  have e2 : wrap64 (p + 1 - 1) = p := by rw [w64 (by omega)]; omega
  by_cases hn : n < 1
  · refine ⟨0, fun k hk => ?_, Int.le_refl _, fun h => by omega, fun _ => rfl⟩
    obtain ⟨k, rfl⟩ : ∃ m, k = m + 1 := ⟨k - 1, by omega⟩
    unfold spec_l20Rd_pick.f
    rw [if_pos hn, e1]
    simp only [spec_l20Rd_pick.j0]
    rw [if_pos (by decide)]
  by_cases hl : (s.length : Int) = 0
  · refine ⟨0, fun k hk => ?_, Int.le_refl _, fun h => by omega, fun _ => rfl⟩
    obtain ⟨k, rfl⟩ : ∃ m, k = m + 1 := ⟨k - 1, by omega⟩
    unfold spec_l20Rd_pick.f
    rw [if_neg hn, e1, beq_iff_eq.2 hl]
    simp only [spec_l20Rd_pick.j0]
    rw [if_pos (by decide)]
  have hl1 : ((s.length : Int) == 0) = false := by rw [beq_eq_false_iff_ne]; exact hl
  have hl2 : 0 < (s.length : Int) := by omega
  by_cases hlt : p < (s.length : Int)
  · have hr := rd_byte hs p
    have e3 : wrap64 (rd s p) = rd s p := w64 (by omega)
    have ht := tmod_range hr.1 (show (0 : Int) < n by omega)
    refine ⟨Int.tmod (rd s p) n, fun k hk => ?_, ht.1, fun _ => ht.2, fun h => by omega⟩
    obtain ⟨k, rfl⟩ : ∃ m, k = m + 1 := ⟨k - 1, by omega⟩
    unfold spec_l20Rd_pick.f
    rw [if_neg hn, e1, hl1]
    simp only [spec_l20Rd_pick.j0]
    rw [if_neg (by decide), e2, if_pos hlt, if_pos hp, if_neg (by omega), e3]
  · have hm1 := tmod_range hp hl2
    have e4 : wrap64 (wrap64 (p * 7) + 3) = p * 7 + 3 := by rw [w64 (n := p * 7) (by omega)]; exact w64 (by omega)
    have hm2 := tmod_range (show 0 ≤ p * 7 + 3 by omega) hl2
    have hd : 0 ≤ Int.tdiv p (s.length : Int) ∧ Int.tdiv p (s.length : Int) ≤ 1000000 := by
      rw [Int.tdiv_eq_ediv_of_nonneg hp]
      exact ⟨Int.ediv_nonneg hp (by omega), Int.le_trans (Int.ediv_le_self _ hp) hp2⟩
    have hb1 := rd_byte hs (Int.tmod p (s.length : Int))
    have hb2 := rd_byte hs (Int.tmod (p * 7 + 3) (s.length : Int))
    obtain ⟨b1, g1⟩ : ∃ b, rd s (Int.tmod p (s.length : Int)) = b := ⟨_, rfl⟩
    obtain ⟨b2, g2⟩ : ∃ b, rd s (Int.tmod (p * 7 + 3) (s.length : Int)) = b := ⟨_, rfl⟩
    obtain ⟨d, g3⟩ : ∃ d, Int.tdiv p (s.length : Int) = d := ⟨_, rfl⟩
    rw [g1] at hb1
    rw [g2] at hb2
    rw [g3] at hd
    have eX : wrap64 (wrap64 (wrap64 (wrap64 (wrap64 b1 * 131) + wrap64 (wrap64 b2 * 1117)) + wrap64 (p * 29)) + wrap64 (wrap64 d * 53)) = b1 * 131 + b2 * 1117 + p * 29 + d * 53 := by
      unfold wrap64
      omega
    have hX : 0 ≤ b1 * 131 + b2 * 1117 + p * 29 + d * 53 ∧ b1 * 131 + b2 * 1117 + p * 29 + d * 53 < 4294967296 := by omega
    obtain ⟨x, g4⟩ : ∃ x, b1 * 131 + b2 * 1117 + p * 29 + d * 53 = x := ⟨_, rfl⟩
    rw [g4] at eX hX
    have eY : wrap64 (Int.tdiv x 64) = x / 64 := by
      rw [Int.tdiv_eq_ediv_of_nonneg hX.1]
      exact w64 (by omega)
    have hxr := xor_range x (x / 64) hX.1 hX.2 (by omega) (by omega)
    have ht := tmod_range hxr.1 (show (0 : Int) < n by omega)
    refine ⟨Int.tmod (Go.bits .xor .i64 x (x / 64)) n, fun k hk => ?_, ht.1, fun _ => ht.2, fun h => by omega⟩
    obtain ⟨k, rfl⟩ : ∃ m, k = m + 1 := ⟨k - 1, by omega⟩
    unfold spec_l20Rd_pick.f
    rw [if_neg hn, e1, hl1]
    simp only [spec_l20Rd_pick.j0]
    rw [if_neg (by decide), e2, if_neg hlt, if_neg hl, if_pos hm1.1, if_pos hm1.2, e4, if_pos hm2.1, if_pos hm2.2, if_neg (by omega), g1, g2, g3, eX, eY]
theorem odd_ok {s : List Int} (hs : Bytes s) (p n : Int) (hp : 0 ≤ p) (hp2 : p ≤ 1000000) (hn2 : n ≤ 1000000) :
    ∃ b p', (∀ k, 1 ≤ k → spec_l20Rd_odd.f k s p n = some (b, p')) ∧ 0 ≤ p' ∧ p' ≤ p + 1 ∧ (n ≤ 0 → b = false) := by
  by_cases hn : n > 0
  · obtain ⟨r, hr, _⟩ := pick_ok hs p n hp hp2 hn2
    refine ⟨r == wrap64 (n - 1), p + 1, fun k hk => ?_, by omega, Int.le_refl _, fun h => by omega⟩
    unfold spec_l20Rd_odd.f
    rw [if_pos hn, hr k hk]
    rfl
  · refine ⟨false, p, fun k hk => ?_, hp, by omega, fun _ => rfl⟩
    unfold spec_l20Rd_odd.f
    rw [if_neg hn]
theorem bytes_take {l : List Int} (h : ∀ x ∈ l, (Lit.int .u8 x).wf = true) (n : Nat) (hn : n ≤ 2000) : Bytes (l.take n) := by
  refine ⟨by rw [List.length_take]; omega, fun x hx => ?_⟩
  have := h x (List.mem_of_mem_take hx)
  simp [Lit.wf, IntKind.min, IntKind.max, IntKind.signed, IntKind.bits] at this
  omega
theorem bytes_of {l : List Int} (h : ∀ x ∈ l, (Lit.int .u8 x).wf = true) (hn : l.length ≤ 2000) : Bytes l := by
  have := bytes_take h 2000 (Nat.le_refl _)
  rwa [List.take_of_length_le hn] at this

end Go.Proofs.Ytdgikheibcmcjaa.Pure
set_option linter.unusedVariables false
set_option linter.unusedSimpArgs false
namespace Go.Proofs.Ytdgikheibcmcjaa.Pure
open Go.RowKit Go.Proofs.Ytdgikheibcmcjaa.X Go.Proofs.YtdgikheibcmcjaaV.PrintWords Go.Proofs.YtdgikheibcmcjaaV.PrintLast Go.Proofs.YtdgikheibcmcjaaV.PrintMore

theorem open_ok {l : List Int} (h : ∀ x ∈ l, (Lit.int .u8 x).wf = true) : ∃ s, spec_l20Open.f l = some (s, 0) ∧ Bytes s := by
  unfold spec_l20Open.f
  by_cases hl : (l.length : Int) > 2000
  · rw [if_pos hl, if_pos (by omega)]
    exact ⟨_, rfl, bytes_take h 2000 (Nat.le_refl _)⟩
  · rw [if_neg hl]
    exact ⟨_, rfl, bytes_of h (by omega)⟩

end Go.Proofs.Ytdgikheibcmcjaa.Pure
set_option linter.unusedVariables false
set_option linter.unusedSimpArgs false
namespace Go.Proofs.Ytdgikheibcmcjaa.Pure
open Go.RowKit Go.Proofs.Ytdgikheibcmcjaa.X Go.Proofs.YtdgikheibcmcjaaV.PrintWords Go.Proofs.YtdgikheibcmcjaaV.PrintLast Go.Proofs.YtdgikheibcmcjaaV.PrintMore

theorem size_app (a b : ByteArray) : (a ++ b).size = a.size + b.size := ByteArray.size_append
theorem strOf_one (x : Int) : (strOfNums [x]).size = 1 := rfl
def Some4 (g : Nat → Option (Int × Int × ByteArray × Int)) (K : Nat) (p b : Int) : Prop :=
  ∃ t n s p', (∀ k, K ≤ k → g k = some (t, n, s, p')) ∧ p ≤ p' ∧ p' ≤ b ∧ s.size ≤ 40
theorem draw3 {l : List Int} (hs : Bytes l) (n0 p t n : Int) (s : ByteArray) (hn0 : n0 ≤ 1000) (hp : 0 ≤ p) (hp2 : p ≤ 100000) (hz : s.size ≤ 20) :
    Some4 (fun k => spec_l20Value.j3 k n0 l p t n s) 2 p (p + 3) := by
  obtain ⟨b, p1, hb, h0, h1, _⟩ := odd_ok hs p n0 hp (by omega) (by omega)
  have hp1 : p ≤ p1 := by
    have := hb 1 (by decide)
    unfold spec_l20Rd_odd.f at this
    by_cases hn : n0 > 0
    · rw [if_pos hn] at this
      obtain ⟨r, hr, _⟩ := pick_ok hs p n0 hp (by omega) (by omega)
      rw [hr 1 (by decide)] at this
      simp only [Option.bind_some, Option.some.injEq, Prod.mk.injEq] at this
      omega
    · rw [if_neg hn] at this
      simp only [Option.some.injEq, Prod.mk.injEq] at this
      omega
  cases b with
  | false =>
    refine ⟨t, n, s, p1, fun k hk => ?_, hp1, by omega, by omega⟩
    obtain ⟨k, rfl⟩ : ∃ m, k = m + 1 := ⟨k - 1, by omega⟩
    simp only [spec_l20Value.j3]
    rw [hb k (by omega)]
    rfl
  | true =>
    obtain ⟨r, hr, r0, r1, _⟩ := pick_ok hs p1 4 h0 (by omega) (by decide)
    have r1 := r1 (by decide)
    obtain ⟨r2, hr2, _⟩ := pick_ok hs (p1 + 1) 7 (by omega) (by omega) (by decide)
    have e7 : (⟨#[97, 98, 99, 100, 101, 102, 103]⟩ : ByteArray).size = 7 := rfl
    have e1 : (⟨#[65]⟩ : ByteArray).size = 1 := rfl
    have hu : ∀ k, 1 ≤ k → spec_l20Value.j3 (k + 1) n0 l p t n s = if r = 0 then some (t, 10000, s, p1 + 1) else if r = 1 then some (t, n, s ++ (⟨#[97, 98, 99, 100, 101, 102, 103]⟩ : ByteArray), p1 + 1) else if r = 2 then some (wrap64 (r2 - 1), n, s, p1 + 1 + 1) else some (t, n, s ++ (⟨#[65]⟩ : ByteArray), p1 + 1) := by
      intro k hk
      simp only [spec_l20Value.j3]
      rw [hb k hk]
      simp only [Option.bind_some, if_true]
      rw [hr k hk]
      simp only [Option.bind_some]
      rw [hr2 k hk, if_pos (show s.size + 7 ≤ 9223372036854775807 by omega), if_pos (show s.size + 1 ≤ 9223372036854775807 by omega)]
      simp only [Option.bind_some]
    have hg : ∀ q : Int × Int × ByteArray × Int, (∀ k, 1 ≤ k → spec_l20Value.j3 (k + 1) n0 l p t n s = some q) → p ≤ q.2.2.2 → q.2.2.2 ≤ p + 3 → q.2.2.1.size ≤ 40 → Some4 (fun k => spec_l20Value.j3 k n0 l p t n s) 2 p (p + 3) := by
      intro q hq ha hb hc
      refine ⟨q.1, q.2.1, q.2.2.1, q.2.2.2, fun k hk => ?_, ha, hb, hc⟩
      obtain ⟨k, rfl⟩ : ∃ m, k = m + 1 := ⟨k - 1, by omega⟩
      exact hq k (by omega)
    by_cases c0 : r = 0
    · exact hg (t, 10000, s, p1 + 1) (fun k hk => by rw [hu k hk, if_pos c0]) (by show p ≤ p1 + 1; omega) (by show p1 + 1 ≤ p + 3; omega) (by show s.size ≤ 40; omega)
    by_cases c1 : r = 1
    · exact hg (t, n, s ++ (⟨#[97, 98, 99, 100, 101, 102, 103]⟩ : ByteArray), p1 + 1) (fun k hk => by rw [hu k hk, if_neg c0, if_pos c1]) (by show p ≤ p1 + 1; omega) (by show p1 + 1 ≤ p + 3; omega) (by show (s ++ _).size ≤ 40; rw [size_app, e7]; omega)
    by_cases c2 : r = 2
    · exact hg (wrap64 (r2 - 1), n, s, p1 + 1 + 1) (fun k hk => by rw [hu k hk, if_neg c0, if_neg c1, if_pos c2]) (by show p ≤ p1 + 1 + 1; omega) (by show p1 + 1 + 1 ≤ p + 3; omega) (by show s.size ≤ 40; omega)
    · exact hg (t, n, s ++ (⟨#[65]⟩ : ByteArray), p1 + 1) (fun k hk => by rw [hu k hk, if_neg c0, if_neg c1, if_neg c2]) (by show p ≤ p1 + 1; omega) (by show p1 + 1 ≤ p + 3; omega) (by show (s ++ _).size ≤ 40; rw [size_app, e1]; omega)
theorem draw_text {l : List Int} (hs : Bytes l) (n0 t n : Int) (hn0 : n0 ≤ 1000) (d : Nat) : ∀ (p : Int) (s : ByteArray), 0 ≤ p → p + d ≤ 99000 → d ≤ 10 → s.size + d ≤ 20 →
    Some4 (fun k => spec_l20Value.l0 k n0 (d : Int) l p t n s) (d + 3) p (p + d + 3) := by
  induction d with
  | zero =>
    intro p s hp hp2 _ hz
    obtain ⟨t', n', s', p', hk', h1, h2, h3⟩ := draw3 hs n0 p t n s hn0 hp (by omega) (by omega)
    refine ⟨t', n', s', p', fun k hk => ?_, h1, by omega, h3⟩
    obtain ⟨k, rfl⟩ : ∃ m, k = m + 1 := ⟨k - 1, by omega⟩
    simp only [spec_l20Value.l0]
    rw [if_neg (by decide)]
    exact hk' k (by omega)
  | succ d ih =>
    intro p s hp hp2 hd hz
    obtain ⟨r, hr, _⟩ := pick_ok hs p 3 hp (by omega) (by decide)
    have hsz : (s ++ strOfNums [(wrap64 (97 + r)) % 256]).size = s.size + 1 := by rw [size_app, strOf_one]
    obtain ⟨t', n', s', p', hk', h1, h2, h3⟩ := ih (p + 1) (s ++ strOfNums [(wrap64 (97 + r)) % 256]) (by omega) (by omega) (by omega) (by omega)
    refine ⟨t', n', s', p', fun k hk => ?_, by omega, by omega, h3⟩
    obtain ⟨k, rfl⟩ : ∃ m, k = m + 1 := ⟨k - 1, by omega⟩
    simp only [spec_l20Value.l0]
    rw [if_pos (by omega), hr k (by omega)]
    simp only [Option.bind_some]
    rw [strOf_one, if_pos (by omega), show wrap64 (((d + 1 : Nat) : Int) - 1) = (d : Int) by rw [w64 (by omega)]; omega]
    exact hk' k (by omega)
theorem draw_ok {l : List Int} (hs : Bytes l) (p n0 : Int) (hp : 0 ≤ p) (hp2 : p ≤ 90000) (hn0 : n0 ≤ 1000) :
    Some4 (fun k => spec_l20Value.f k l p n0) 20 p (p + 20) := by
  obtain ⟨r, hr, r0, r1, _⟩ := pick_ok hs p 7 hp (by omega) (by decide)
  have r1 := r1 (by decide)
  have hu : ∀ k, 1 ≤ k → spec_l20Value.f k l p n0 = (if r = 0 then (spec_l20Value.j3 k n0 l (p + 1) 0 0 (⟨#[]⟩ : ByteArray)) else (if r = 1 then (spec_l20Value.j0 k n0 r (r == 1) l (p + 1)) else (if r = 2 then (spec_l20Value.j0 k n0 r (r == 2) l (p + 1)) else (spec_l20Value.j0 k n0 r (r == 3) l (p + 1))))) := by
    intro k hk
    unfold spec_l20Value.f
    rw [hr k hk]
    rfl
  have e0 : (⟨#[]⟩ : ByteArray).size = 0 := rfl
  -- a number
  have num : Some4 (fun k => spec_l20Value.j0 k n0 r true l (p + 1)) 10 (p + 1) (p + 20) := by
    obtain ⟨a, ha, a0, a1, _⟩ := pick_ok hs (p + 1) 7 (by omega) (by omega) (by decide)
    obtain ⟨b, hb, _⟩ := pick_ok hs (p + 1 + 1) 8 (by omega) (by omega) (by decide)
    obtain ⟨c, hc, c0, c1, _⟩ := pick_ok hs (p + 1 + 1 + 1) 5 (by omega) (by omega) (by decide)
    have c1 := c1 (by decide)
    by_cases hb0 : b = 0
    · obtain ⟨t', n', s', p', hk', h1, h2, h3⟩ := draw3 hs n0 (p + 1 + 1 + 1 + 1) 1 (rd [9999, -9999, 255, 256, -256] c) ⟨#[]⟩ hn0 (by omega) (by omega) (by rw [e0]; omega)
      refine ⟨t', n', s', p', fun k hk => ?_, by omega, by omega, h3⟩
      obtain ⟨k, rfl⟩ : ∃ m, k = m + 1 := ⟨k - 1, by omega⟩
      simp only [spec_l20Value.j0]
      rw [if_pos (by decide), ha k (by omega)]
      simp only [Option.bind_some]
      rw [hb k (by omega)]
      simp only [Option.bind_some]
      rw [if_pos hb0, hc k (by omega)]
      simp only [Option.bind_some]
      rw [if_pos c0, if_pos (show c < ((([9999, -9999, 255, 256, -256] : List Int).length : Nat) : Int) from c1)]
      exact hk' k (by omega)
    · obtain ⟨t', n', s', p', hk', h1, h2, h3⟩ := draw3 hs n0 (p + 1 + 1 + 1) 1 (wrap64 (a - 3)) ⟨#[]⟩ hn0 (by omega) (by omega) (by rw [e0]; omega)
      refine ⟨t', n', s', p', fun k hk => ?_, by omega, by omega, h3⟩
      obtain ⟨k, rfl⟩ : ∃ m, k = m + 1 := ⟨k - 1, by omega⟩
      simp only [spec_l20Value.j0]
      rw [if_pos (by decide), ha k (by omega)]
      simp only [Option.bind_some]
      rw [hb k (by omega)]
      simp only [Option.bind_some]
      rw [if_neg hb0]
      exact hk' k (by omega)
  -- a text
  have text : Some4 (fun k => spec_l20Value.j1 k n0 true l (p + 1)) 15 (p + 1) (p + 20) := by
    obtain ⟨a, ha, a0, a1, _⟩ := pick_ok hs (p + 1) 4 (by omega) (by omega) (by decide)
    have a1 := a1 (by decide)
    obtain ⟨d, rfl⟩ := Int.eq_ofNat_of_zero_le a0
    obtain ⟨t', n', s', p', hk', h1, h2, h3⟩ := draw_text hs n0 2 0 hn0 d (p + 1 + 1) ⟨#[]⟩ (by omega) (by omega) (by omega) (by rw [e0]; omega)
    refine ⟨t', n', s', p', fun k hk => ?_, by omega, by omega, h3⟩
    obtain ⟨k, rfl⟩ : ∃ m, k = m + 1 := ⟨k - 1, by omega⟩
    simp only [spec_l20Value.j1]
    rw [if_pos (by decide), ha k (by omega)]
    simp only [Option.bind_some]
    exact hk' k (by omega)
  -- a truth
  have truth : Some4 (fun k => spec_l20Value.j1 k n0 false l (p + 1)) 15 (p + 1) (p + 20) := by
    obtain ⟨a, ha, _⟩ := pick_ok hs (p + 1) 2 (by omega) (by omega) (by decide)
    obtain ⟨t', n', s', p', hk', h1, h2, h3⟩ := draw3 hs n0 (p + 1 + 1) 3 a ⟨#[]⟩ hn0 (by omega) (by omega) (by rw [e0]; omega)
    refine ⟨t', n', s', p', fun k hk => ?_, by omega, by omega, h3⟩
    obtain ⟨k, rfl⟩ : ∃ m, k = m + 1 := ⟨k - 1, by omega⟩
    simp only [spec_l20Value.j1]
    rw [if_neg (by decide), ha k (by omega)]
    simp only [Option.bind_some]
    exact hk' k (by omega)
  by_cases c0 : r = 0
  · obtain ⟨t', n', s', p', hk', h1, h2, h3⟩ := draw3 hs n0 (p + 1) 0 0 ⟨#[]⟩ hn0 (by omega) (by omega) (by rw [e0]; omega)
    refine ⟨t', n', s', p', fun k hk => ?_, by omega, by omega, h3⟩
    show spec_l20Value.f k l p n0 = _
    rw [hu k (by omega), if_pos c0]
    exact hk' k (by omega)
  by_cases c3 : r = 1 ∨ r = 2 ∨ r = 3
  · obtain ⟨t', n', s', p', hk', h1, h2, h3⟩ := num
    refine ⟨t', n', s', p', fun k hk => ?_, by omega, h2, h3⟩
    show spec_l20Value.f k l p n0 = _
    rw [hu k (by omega), if_neg c0]
    rcases c3 with rfl | rfl | rfl
    · exact hk' k (by omega)
    · exact hk' k (by omega)
    · exact hk' k (by omega)
  · have hj : ∀ k, 1 ≤ k → spec_l20Value.f (k + 1) l p n0 = spec_l20Value.j1 k n0 (r == 4 || r == 5) l (p + 1) := by
      intro k hk
      rw [hu (k + 1) (by omega), if_neg c0, if_neg (by omega), if_neg (by omega), beq_eq_false_iff_ne.2 (show r ≠ 3 by omega)]
      simp only [spec_l20Value.j0]
      rw [if_neg (by decide)]
      by_cases c4 : r = 4
      · rw [if_pos c4, c4]
        rfl
      · rw [if_neg c4, beq_eq_false_iff_ne.2 c4, Bool.false_or]
    by_cases c4 : r = 4 ∨ r = 5
    · obtain ⟨t', n', s', p', hk', h1, h2, h3⟩ := text
      refine ⟨t', n', s', p', fun k hk => ?_, by omega, h2, h3⟩
      obtain ⟨k, rfl⟩ : ∃ m, k = m + 1 := ⟨k - 1, by omega⟩
      show spec_l20Value.f (k + 1) l p n0 = _
      rw [hj k (by omega), show (r == 4 || r == 5) = true by rcases c4 with rfl | rfl <;> rfl]
      exact hk' k (by omega)
    · obtain ⟨t', n', s', p', hk', h1, h2, h3⟩ := truth
      refine ⟨t', n', s', p', fun k hk => ?_, by omega, h2, h3⟩
      obtain ⟨k, rfl⟩ : ∃ m, k = m + 1 := ⟨k - 1, by omega⟩
      show spec_l20Value.f (k + 1) l p n0 = _
      rw [hj k (by omega), show (r == 4 || r == 5) = false by rw [beq_eq_false_iff_ne.2 (show r ≠ 4 by omega), beq_eq_false_iff_ne.2 (show r ≠ 5 by omega)]; rfl]
      exact hk' k (by omega)

end Go.Proofs.Ytdgikheibcmcjaa.Pure
set_option linter.unusedVariables false
set_option linter.unusedSimpArgs false
namespace Go.Proofs.Ytdgikheibcmcjaa.Pure
open Go.RowKit Go.Proofs.YtdgikheibcmcjaaV.PrintWords Go.Proofs.YtdgikheibcmcjaaV.PrintLast Go.Proofs.YtdgikheibcmcjaaV.PrintMore

theorem w64g {n : Int} (h : -9223372036854775808 ≤ n ∧ n ≤ 9223372036854775807) : wrap64 n = n := by unfold wrap64; omega
theorem scan_all (F : Nat → Int → Option Bool) (n K : Nat) (G : Nat → Prop) (fin : Bool)
    (h1 : ∀ k j, K ≤ k → j < n → G j → F (k + 1) (j : Int) = F k ((j + 1 : Nat) : Int))
    (h2 : ∀ k j, K ≤ k → j < n → ¬ G j → F (k + 1) (j : Int) = some false)
    (h3 : ∀ k, K ≤ k → F (k + 1) (n : Int) = some fin) :
    ∃ b, (∀ k, n + 1 + K ≤ k → F k 0 = some b) ∧ (b = true ↔ ((∀ j, j < n → G j) ∧ fin = true)) := by
  have main : ∀ d i, i + d = n → ∃ b, (∀ k, d + 1 + K ≤ k → F k (i : Int) = some b) ∧ (b = true ↔ ((∀ j, i ≤ j → j < n → G j) ∧ fin = true)) := by
    intro d
    induction d with
    | zero =>
      intro i hi
      have hi : i = n := by omega
      subst hi
      refine ⟨fin, fun k hk => ?_, ⟨fun h => ⟨fun j h1 h2 => by omega, h⟩, fun h => h.2⟩⟩
      obtain ⟨k, rfl⟩ : ∃ m, k = m + 1 := ⟨k - 1, by omega⟩
      exact h3 k (by omega)
    | succ d ih =>
      intro i hi
      by_cases g : G i
      · obtain ⟨b, hb, hb'⟩ := ih (i + 1) (by omega)
        refine ⟨b, fun k hk => ?_, ?_⟩
        · obtain ⟨k, rfl⟩ : ∃ m, k = m + 1 := ⟨k - 1, by omega⟩
          rw [h1 k i (by omega) (by omega) g]
          exact hb k (by omega)
        · rw [hb']
          constructor
          · intro h
            refine ⟨fun j hj hj' => ?_, h.2⟩
            by_cases e : j = i
            · rw [e]; exact g
            · exact h.1 j (by omega) hj'
          · intro h
            exact ⟨fun j hj hj' => h.1 j (by omega) hj', h.2⟩
      · refine ⟨false, fun k hk => ?_, ?_⟩
        · obtain ⟨k, rfl⟩ : ∃ m, k = m + 1 := ⟨k - 1, by omega⟩
          exact h2 k i (by omega) (by omega) g
        · constructor
          · intro h
            cases h
          · intro h
            exact absurd (h.1 i (Nat.le_refl _) (by omega)) g
  obtain ⟨b, hb, hb'⟩ := main n 0 (by omega)
  refine ⟨b, hb, ?_⟩
  rw [hb']
  constructor
  · intro h; exact ⟨fun j hj => h.1 j (by omega) hj, h.2⟩
  · intro h; exact ⟨fun j _ hj => h.1 j hj, h.2⟩
theorem go_all {α : Type} (F : Nat → Int → Option α) (n K c : Nat) (r : α)
    (h1 : ∀ k j, K ≤ k → j < n → F (k + c) (j : Int) = F k ((j + 1 : Nat) : Int))
    (h3 : ∀ k, K ≤ k → F (k + c) (n : Int) = some r) : ∀ k, K + c * (n + 1) ≤ k → F k 0 = some r := by
  have main : ∀ d i, i + d = n → ∀ k, K + c * (d + 1) ≤ k → F k (i : Int) = some r := by
    intro d
    induction d with
    | zero =>
      intro i hi k hk
      have hi : i = n := by omega
      subst hi
      obtain ⟨k, rfl⟩ : ∃ m, k = m + c := ⟨k - c, by omega⟩
      exact h3 k (by omega)
    | succ d ih =>
      intro i hi k hk
      have e : c * (d + 1 + 1) = c * (d + 1) + c := Nat.mul_succ _ _
      obtain ⟨k, rfl⟩ : ∃ m, k = m + c := ⟨k - c, by omega⟩
      rw [h1 k i (by omega) (by omega)]
      exact ih (i + 1) (by omega) k (by omega)
  exact main n 0 (by omega)
theorem copy_all {β : Type} (F : Nat → List β → Int → Option (List β)) (L : List β) (x0 : List β) (hx : x0.length = L.length) (d : β)
    (h1 : ∀ k (x : List β) j, j < L.length → x.length = L.length → F (k + 1) x (j : Int) = F k (x.set j (L.getD j d)) ((j + 1 : Nat) : Int))
    (h3 : ∀ k x, x.length = L.length → F (k + 1) x (L.length : Int) = some x) : ∀ k, L.length + 1 ≤ k → F k x0 0 = some L := by
  have main : ∀ e i, i + e = L.length → ∀ k, e + 1 ≤ k → F k (L.take i ++ x0.drop i) (i : Int) = some L := by
    intro e
    induction e with
    | zero =>
      intro i hi k hk
      have hi : i = L.length := by omega
      subst hi
      obtain ⟨k, rfl⟩ : ∃ m, k = m + 1 := ⟨k - 1, by omega⟩
      rw [h3 k _ (by simp [hx]), List.take_length, List.drop_of_length_le (by omega), List.append_nil]
    | succ e ih =>
      intro i hi k hk
      obtain ⟨k, rfl⟩ : ∃ m, k = m + 1 := ⟨k - 1, by omega⟩
      have hlen : (L.take i ++ x0.drop i).length = L.length := by
        rw [List.length_append, List.length_take, List.length_drop]
        omega
      rw [h1 k _ i (by omega) hlen]
      have hi' : i < L.length := by omega
      have hi2 : i < x0.length := by omega
      have e2 : (L.take i ++ x0.drop i).set i (L.getD i d) = L.take (i + 1) ++ x0.drop (i + 1) := by
        rw [List.set_append_right _ _ (by rw [List.length_take]; omega), List.length_take, show i - min i L.length = 0 by omega, List.drop_eq_getElem_cons hi2, List.set_cons_zero]
        rw [List.take_succ_eq_append_getElem hi', List.append_assoc]
        congr 1
        rw [List.getD_eq_getElem?_getD, List.getElem?_eq_getElem hi']
        rfl
      rw [e2]
      exact ih (i + 1) (by omega) k (by omega)
  intro k hk
  have := main L.length 0 (by omega) k hk
  simpa using this
theorem chain_iff {α : Type} (d : α) (Q : α → Prop) (R : α → α → Prop) (tr : ∀ a b c, R a b → R b c → R a c) (l : List α) :
    (∀ j, j < l.length → Q (l.getD j d) ∧ (0 < j → R (l.getD (j - 1) d) (l.getD j d))) ↔ ((∀ x ∈ l, Q x) ∧ l.Pairwise R) := by
  have gd : ∀ j (h : j < l.length), l.getD j d = l[j] := by
    intro j h
    rw [List.getD_eq_getElem?_getD, List.getElem?_eq_getElem h]
    rfl
  constructor
  · intro h
    refine ⟨fun x hx => ?_, ?_⟩
    · obtain ⟨j, hj, rfl⟩ := List.getElem_of_mem hx
      rw [← gd j hj]
      exact (h j hj).1
    · rw [List.pairwise_iff_getElem]
      have main : ∀ e i (hi : i < l.length) (hj : i + e + 1 < l.length), R l[i] l[i + e + 1] := by
        intro e
        induction e with
        | zero =>
          intro i hi hj
          have := (h (i + 0 + 1) hj).2 (by omega)
          rw [gd _ (show i + 0 + 1 - 1 < l.length by omega), gd _ hj] at this
          exact this
        | succ e ih =>
          intro i hi hj
          have h1 := ih i hi (by omega)
          have := (h (i + (e + 1) + 1) hj).2 (by omega)
          rw [gd _ (show i + (e + 1) + 1 - 1 < l.length by omega), gd _ hj] at this
          exact tr _ _ _ h1 this
      intro i j hi hj hij
      obtain ⟨e, rfl⟩ : ∃ e, j = i + e + 1 := ⟨j - i - 1, by omega⟩
      exact main e i hi hj
  · intro h j hj
    refine ⟨?_, fun h0 => ?_⟩
    · rw [gd j hj]
      exact h.1 _ (List.getElem_mem hj)
    · rw [gd j hj, gd (j - 1) (by omega)]
      exact List.pairwise_iff_getElem.1 h.2 (j - 1) j (by omega) hj (by omega)
/-- What holds of a chain holds of the chain without one of its elements. -/
theorem chain_less {α : Type} {Q : α → Prop} {R : α → α → Prop} {l : List α} (h : (∀ x ∈ l, Q x) ∧ l.Pairwise R) (a b : Nat) (hab : a ≤ b) :
    (∀ x ∈ l.take a ++ l.drop b, Q x) ∧ (l.take a ++ l.drop b).Pairwise R := by
  have sub : (l.take a ++ l.drop b).Sublist l := by
    have h1 : (l.take a ++ l.drop b).Sublist (l.take a ++ l.drop a) := by
      apply List.Sublist.append (List.Sublist.refl _)
      rw [show b = a + (b - a) by omega, ← List.drop_drop]
      exact List.drop_sublist _ _
    rwa [List.take_append_drop] at h1
  exact ⟨fun x hx => h.1 x (sub.subset hx), h.2.sublist sub⟩
theorem go_all2 {α : Type} (F : Nat → Int → Option α) (n K : Nat) (r : α)
    (h1 : ∀ k j, K ≤ k → j < n → F (k + 1 + 1) (j : Int) = F k ((j + 1 : Nat) : Int))
    (h3 : ∀ k, K ≤ k → F (k + 1 + 1) (n : Int) = some r) : ∀ k, K + 2 * (n + 1) ≤ k → F k 0 = some r :=
  go_all F n K 2 r h1 h3
theorem any_ok {α : Type} (F : Nat → Int → Option α) (n K : Nat)
    (h1 : ∀ j, j < n → (∃ r, ∀ k, K ≤ k → F (k + 1) (j : Int) = some r) ∨ (∀ k, K ≤ k → F (k + 1) (j : Int) = F k ((j + 1 : Nat) : Int)))
    (h3 : ∃ r, ∀ k, K ≤ k → F (k + 1) (n : Int) = some r) : ∃ r, ∀ k, n + 1 + K ≤ k → F k 0 = some r := by
  have main : ∀ d i, i + d = n → ∃ r, ∀ k, d + 1 + K ≤ k → F k (i : Int) = some r := by
    intro d
    induction d with
    | zero =>
      intro i hi
      have hi : i = n := by omega
      subst hi
      obtain ⟨r, hr⟩ := h3
      refine ⟨r, fun k hk => ?_⟩
      obtain ⟨k, rfl⟩ : ∃ m, k = m + 1 := ⟨k - 1, by omega⟩
      exact hr k (by omega)
    | succ d ih =>
      intro i hi
      rcases h1 i (by omega) with ⟨r, hr⟩ | h
      · refine ⟨r, fun k hk => ?_⟩
        obtain ⟨k, rfl⟩ : ∃ m, k = m + 1 := ⟨k - 1, by omega⟩
        exact hr k (by omega)
      · obtain ⟨r, hr⟩ := ih (i + 1) (by omega)
        refine ⟨r, fun k hk => ?_⟩
        obtain ⟨k, rfl⟩ : ∃ m, k = m + 1 := ⟨k - 1, by omega⟩
        rw [h k (by omega)]
        exact hr k (by omega)
  exact main n 0 (by omega)

end Go.Proofs.Ytdgikheibcmcjaa.Pure
set_option linter.unusedVariables false
set_option linter.unusedSimpArgs false
namespace Go.Proofs.Ytdgikheibcmcjaa.Pure
open Go.RowKit Go.Proofs.Ytdgikheibcmcjaa.X Go.Proofs.YtdgikheibcmcjaaV.PrintWords Go.Proofs.YtdgikheibcmcjaaV.PrintLast Go.Proofs.YtdgikheibcmcjaaV.PrintMore

theorem between_eq (a lo hi : Int) : impl_between.f a lo hi = some (decide (lo ≤ a ∧ a ≤ hi)) := by
  unfold impl_between.f
  by_cases h : a ≥ lo
  · rw [if_pos h]
    by_cases g : a ≤ hi
    · rw [decide_eq_true g, decide_eq_true ⟨h, g⟩]
    · rw [decide_eq_false g, decide_eq_false (fun h' => g h'.2)]
  · rw [if_neg h, decide_eq_false (fun h' => h h'.1)]

end Go.Proofs.Ytdgikheibcmcjaa.Pure
set_option linter.unusedVariables false
set_option linter.unusedSimpArgs false
namespace Go.Proofs.Ytdgikheibcmcjaa.Pure
open Go.RowKit Go.Proofs.Ytdgikheibcmcjaa.X Go.Proofs.YtdgikheibcmcjaaV.PrintWords Go.Proofs.YtdgikheibcmcjaaV.PrintLast Go.Proofs.YtdgikheibcmcjaaV.PrintMore

theorem toList_data (s : ByteArray) : s.toList = s.data.toList := ByteArray.toList_eq s
theorem data_size (s : ByteArray) : s.data.toList.length = s.size := by rw [Array.length_toList]; rfl
theorem nil_iff (s : ByteArray) : s.toList = ([] : List UInt8) ↔ s.size = 0 := by
  rw [toList_data, ← List.length_eq_zero_iff, data_size]
theorem nil_beq (s : ByteArray) : (s.toList == ([] : List UInt8)) = decide (s.size = 0) := by
  rw [Bool.eq_iff_iff, beq_iff_eq, nil_iff, decide_eq_true_iff]
/-- Small letters alone. -/
def Low (s : ByteArray) : Bool := s.data.toList.all fun c => decide (97 ≤ c.toNat ∧ c.toNat ≤ 122)
/-- A value: its kind, its number, its text. -/
def VOk (t n : Int) (s : ByteArray) : Bool :=
  decide (t = 0 ∧ n = 0 ∧ s.size = 0) || decide (t = 1 ∧ s.size = 0 ∧ -9999 ≤ n ∧ n ≤ 9999) || (decide (t = 2 ∧ n = 0 ∧ s.size ≤ 6) && Low s) || decide (t = 3 ∧ s.size = 0 ∧ 0 ≤ n ∧ n ≤ 1)
theorem letters_eq (s : ByteArray) (h : s.size ≤ 6) : impl_letters.f s = some (Low s) := by
  unfold impl_letters.f
  rw [if_pos (by omega)]
  rfl
theorem vok0 {t n : Int} {s : ByteArray} (ht : t = 0) : VOk t n s = decide (n = 0 ∧ s.size = 0) := by subst ht; simp [VOk]
theorem vok1 {t n : Int} {s : ByteArray} (ht : t = 1) : VOk t n s = decide (s.size = 0 ∧ -9999 ≤ n ∧ n ≤ 9999) := by subst ht; simp [VOk]
theorem vok2 {t n : Int} {s : ByteArray} (ht : t = 2) : VOk t n s = (decide (n = 0 ∧ s.size ≤ 6) && Low s) := by subst ht; simp [VOk]
theorem vok3 {t n : Int} {s : ByteArray} (ht : t = 3) : VOk t n s = decide (s.size = 0 ∧ 0 ≤ n ∧ n ≤ 1) := by subst ht; simp [VOk]
theorem vokx {t n : Int} {s : ByteArray} (h0 : ¬ t = 0) (h1 : ¬ t = 1) (h2 : ¬ t = 2) (h3 : ¬ t = 3) : VOk t n s = false := by simp [VOk, h0, h1, h2, h3]
theorem impl_ok (t n : Int) (s : ByteArray) : impl_Value_ok.f t n s = some (VOk t n s) := by
  unfold impl_Value_ok.f
  by_cases h0 : t = 0
  · rw [if_pos h0, vok0 h0, nil_beq]
    subst h0
    congr 1
    rw [Bool.eq_iff_iff]
    simp
  rw [if_neg h0]
  by_cases h1 : t = 1
  · rw [if_pos h1, vok1 h1]
    by_cases hs : s.size = 0
    · rw [if_pos ((nil_iff s).2 hs), between_eq]
      simp [hs]
    · rw [if_neg (fun h => hs ((nil_iff s).1 h))]
      simp [hs]
  rw [if_neg h1]
  by_cases h2 : t = 2
  · rw [if_pos h2, vok2 h2]
    by_cases hn : n = 0
    · rw [if_pos hn]
      by_cases hs : (s.size : Int) ≤ 6
      · rw [if_pos hs, letters_eq s (by omega)]
        have : s.size ≤ 6 := by omega
        simp [hn, this]
      · rw [if_neg hs]
        have : ¬ s.size ≤ 6 := by omega
        simp [this]
    · rw [if_neg hn]
      simp [hn]
  rw [if_neg h2]
  by_cases h3 : t = 3
  · rw [if_pos h3, vok3 h3]
    by_cases hs : s.size = 0
    · rw [if_pos ((nil_iff s).2 hs), between_eq]
      simp [hs]
    · rw [if_neg (fun h => hs ((nil_iff s).1 h))]
      simp [hs]
  · rw [if_neg h3, vokx h0 h1 h2 h3]
/-- What is known of a value. -/
theorem vok_cases {t n : Int} {s : ByteArray} (h : VOk t n s = true) :
    (t = 0 ∧ n = 0 ∧ s.size = 0) ∨ (t = 1 ∧ s.size = 0 ∧ -9999 ≤ n ∧ n ≤ 9999) ∨ (t = 2 ∧ n = 0 ∧ s.size ≤ 6 ∧ Low s = true) ∨ (t = 3 ∧ s.size = 0 ∧ 0 ≤ n ∧ n ≤ 1) := by
  simp only [VOk, Bool.or_eq_true, Bool.and_eq_true, decide_eq_true_eq] at h
  rcases h with ((h | h) | h) | h
  · exact .inl h
  · exact .inr (.inl h)
  · exact .inr (.inr (.inl ⟨h.1.1, h.1.2.1, h.1.2.2, h.2⟩))
  · exact .inr (.inr (.inr h))
theorem vok_size {t n : Int} {s : ByteArray} (h : VOk t n s = true) : s.size ≤ 6 := by
  rcases vok_cases h with h | h | h | h <;> omega
theorem vok_kind {t n : Int} {s : ByteArray} (h : VOk t n s = true) : 0 ≤ t ∧ t ≤ 3 := by
  rcases vok_cases h with h | h | h | h <;> omega
theorem vok_num {t n : Int} {s : ByteArray} (h : VOk t n s = true) : -9999 ≤ n ∧ n ≤ 9999 := by
  rcases vok_cases h with h | h | h | h <;> omega

end Go.Proofs.Ytdgikheibcmcjaa.Pure
set_option linter.unusedVariables false
set_option linter.unusedSimpArgs false
namespace Go.Proofs.Ytdgikheibcmcjaa.Pure
open Go.RowKit Go.Proofs.Ytdgikheibcmcjaa.X Go.Proofs.YtdgikheibcmcjaaV.PrintWords Go.Proofs.YtdgikheibcmcjaaV.PrintLast Go.Proofs.YtdgikheibcmcjaaV.PrintMore

def VB (t n : Int) (s : ByteArray) : List Int :=
  if VOk t n s = true then (if t = 1 then [1, (n + 10000) / 256, (n + 10000) % 256] else if t = 2 then 2 :: (s.size : Int) :: bytesOf s else if t = 3 then [3, n] else [0]) else []
theorem bytes_len (s : ByteArray) : (bytesOf s).length = s.size := bytesOf_length s
theorem vb_len (t n : Int) (s : ByteArray) : (VB t n s).length ≤ 8 := by
  unfold VB
  split
  · rename_i h
    have := vok_size h
    split
    · simp
    · split
      · simp only [List.length_cons, bytes_len]; omega
      · split <;> simp
  · simp
theorem impl_vb {t n : Int} {s : ByteArray} (h : VOk t n s = true) : impl_Value_bytes.f t n s = some (VB t n s) := by
  unfold impl_Value_bytes.f VB
  rw [if_pos h]
  rcases vok_cases h with ⟨rfl, rfl, h3⟩ | ⟨rfl, h3, h4, h5⟩ | ⟨rfl, rfl, h3, h4⟩ | ⟨rfl, h3, h4, h5⟩
  · rfl
  · simp only [Option.bind_some, if_true]
    rw [w64g (n := n + 10000) (by omega), if_pos (by simp)]
    have e1 : (n + 10000) / 256 % 256 = (n + 10000) / 256 := by omega
    rw [e1]
    rfl
  · have e1 : (s.size : Int) % 256 = s.size := by omega
    simp only [Option.bind_some, show ((2 : Int) = 1) = False from eq_false (by decide), if_false, if_true, e1]
    rw [if_pos (by simp), if_pos (by simp; omega)]
    rfl
  · have e1 : n % 256 = n := by omega
    simp only [Option.bind_some, show ((3 : Int) = 1) = False from eq_false (by decide), show ((3 : Int) = 2) = False from eq_false (by decide), if_false, if_true, e1]
    rw [if_pos (by simp)]
    rfl
theorem vb_byte {t n : Int} {s : ByteArray} : ∀ x ∈ VB t n s, 0 ≤ x ∧ x ≤ 255 := by
  intro x hx
  unfold VB at hx
  split at hx
  · rename_i h
    rcases vok_cases h with ⟨rfl, rfl, h3⟩ | ⟨rfl, h3, h4, h5⟩ | ⟨rfl, rfl, h3, h4⟩ | ⟨rfl, h3, h4, h5⟩
    · have : x = 0 := by simpa using hx
      omega
    · have : x = 1 ∨ x = (n + 10000) / 256 ∨ x = (n + 10000) % 256 := by simpa using hx
      omega
    · have : x = 2 ∨ x = (s.size : Int) ∨ x ∈ bytesOf s := by simpa using hx
      rcases this with h | h | h
      · omega
      · omega
      · unfold bytesOf at h
        obtain ⟨b, _, rfl⟩ := List.mem_map.1 h
        have := b.toNat_lt
        omega
    · have : x = 3 ∨ x = n := by simpa using hx
      omega
  · cases hx

end Go.Proofs.Ytdgikheibcmcjaa.Pure
set_option linter.unusedVariables false
set_option linter.unusedSimpArgs false
namespace Go.Proofs.Ytdgikheibcmcjaa.Pure
open Go.RowKit Go.Proofs.Ytdgikheibcmcjaa.X Go.Proofs.YtdgikheibcmcjaaV.PrintWords Go.Proofs.YtdgikheibcmcjaaV.PrintLast Go.Proofs.YtdgikheibcmcjaaV.PrintMore

def Byt (l : List Int) : Prop := ∀ x ∈ l, 0 ≤ x ∧ x ≤ 255
theorem byt_rd {l : List Int} (h : Byt l) (i : Int) : 0 ≤ rd l i ∧ rd l i ≤ 255 := by
  unfold rd
  rw [List.getD_eq_getElem?_getD]
  by_cases hi : i.toNat < l.length
  · rw [List.getElem?_eq_getElem hi]
    exact h _ (List.getElem_mem hi)
  · rw [List.getElem?_eq_none (by omega)]
    simp
theorem byt_take {l : List Int} (h : Byt l) (n : Nat) : Byt (l.take n) := fun x hx => h x (List.mem_of_mem_take hx)
theorem byt_drop {l : List Int} (h : Byt l) (n : Nat) : Byt (l.drop n) := fun x hx => h x (List.mem_of_mem_drop hx)
theorem bytesOf_str : ∀ {xs : List Int}, Byt xs → bytesOf (strOfNums xs) = xs := by
  intro xs h
  unfold bytesOf
  rw [strOfNums_data, List.map_map]
  have : ∀ x ∈ xs, ((fun b : UInt8 => (b.toNat : Int)) ∘ fun n : Int => UInt8.ofNat n.toNat) x = x := by
    intro x hx
    have := h x hx
    show (((UInt8.ofNat x.toNat).toNat : Nat) : Int) = x
    rw [UInt8.toNat_ofNat']
    omega
  calc xs.map _ = xs.map id := List.map_congr_left this
    _ = xs := List.map_id xs
theorem str_inj {xs ys : List Int} (hx : Byt xs) (hy : Byt ys) : (strOfNums xs).toList = (strOfNums ys).toList ↔ xs = ys := by
  constructor
  · intro h
    rw [toList_data, toList_data] at h
    have e : bytesOf (strOfNums xs) = bytesOf (strOfNums ys) := by unfold bytesOf; rw [h]
    rwa [bytesOf_str hx, bytesOf_str hy] at e
  · intro h
    rw [h]
theorem str_bytes (s : ByteArray) : strOfNums (bytesOf s) = s := by
  have h1 : (strOfNums (bytesOf s)).data.toList = s.data.toList := by
    rw [strOfNums_data]
    unfold bytesOf
    rw [List.map_map]
    have : ∀ b ∈ s.data.toList, ((fun n : Int => UInt8.ofNat n.toNat) ∘ fun b : UInt8 => (b.toNat : Int)) b = b := by
      intro b _
      show UInt8.ofNat ((b.toNat : Int).toNat) = b
      rw [Int.toNat_natCast, UInt8.ofNat_toNat]
    calc s.data.toList.map _ = s.data.toList.map id := List.map_congr_left this
      _ = _ := List.map_id _
  cases h : strOfNums (bytesOf s) with
  | mk d =>
    rw [h] at h1
    cases s with
    | mk e =>
      congr 1
      exact Array.toList_inj.1 h1

end Go.Proofs.Ytdgikheibcmcjaa.Pure
set_option linter.unusedVariables false
set_option linter.unusedSimpArgs false
namespace Go.Proofs.Ytdgikheibcmcjaa.Pure
open Go.RowKit Go.Proofs.Ytdgikheibcmcjaa.X Go.Proofs.YtdgikheibcmcjaaV.PrintWords Go.Proofs.YtdgikheibcmcjaaV.PrintLast Go.Proofs.YtdgikheibcmcjaaV.PrintMore

def E0 : ByteArray := ⟨#[]⟩
def Z4 : Int × Int × ByteArray × Int := (0, 0, E0, 0)
def Ok4 (t n : Int) (s : ByteArray) (L : Int) : Int × Int × ByteArray × Int := if VOk t n s = true then (t, n, s, L) else Z4
def Txt (l : List Int) : ByteArray := strOfNums ((l.take (2 + rd l 1).toNat).drop 2)
def VF0 (l : List Int) : Int × Int × ByteArray × Int :=
  if rd l 0 = 2 ∧ 1 < (l.length : Int) ∧ 2 + rd l 1 ≤ (l.length : Int) then Ok4 2 0 (Txt l) (2 + rd l 1) else if rd l 0 = 3 ∧ 1 < (l.length : Int) then Ok4 3 (rd l 1) E0 2 else if rd l 0 = 0 then (0, 0, E0, 1) else Z4
def VF (l : List Int) : Int × Int × ByteArray × Int :=
  if (l.length : Int) = 0 then Z4 else if rd l 0 = 1 ∧ 2 < (l.length : Int) then Ok4 1 (256 * rd l 1 + rd l 2 - 10000) E0 3 else VF0 l
theorem vok_zero : VOk 0 0 E0 = true := by decide
theorem impl_j2f (l : List Int) (t : Int) (k : Nat) : impl_ValueFrom.j2 (k + 1) l 1 false t 0 E0 = some (if t = 0 then (0, 0, E0, 1) else Z4) := by
  rw [impl_ValueFrom.j2, if_neg (by decide)]
  by_cases h : t = 0
  · subst h
    rw [if_pos rfl, if_pos rfl, impl_ok, vok_zero]
    rfl
  · rw [if_neg h, if_neg h]
    rfl
theorem impl_j1f {l : List Int} (hB : Byt l) (t : Int) (k : Nat) : impl_ValueFrom.j1 (k + 2) l 1 false t 0 E0 = some (if t = 3 ∧ 1 < (l.length : Int) then Ok4 3 (rd l 1) E0 2 else if t = 0 then (0, 0, E0, 1) else Z4) := by
  rw [impl_ValueFrom.j1, if_neg (by decide)]
  by_cases h : t = 3
  · subst h
    rw [if_pos rfl]
    by_cases hl : (l.length : Int) > 1
    · have hr := byt_rd hB 1
      rw [decide_eq_true hl, if_pos ⟨rfl, hl⟩, impl_ValueFrom.j2, if_pos rfl, if_pos hl, w64g (n := rd l 1) (by omega), impl_ok]
      unfold Ok4
      by_cases hv : VOk 3 (rd l 1) E0 = true
      · simp only [Option.bind_some, hv, if_true]
      · simp only [Option.bind_some, hv, if_false]
        rfl
    · rw [decide_eq_false hl, if_neg (fun h => hl h.2), impl_j2f]
  · rw [if_neg h, impl_j2f, if_neg (show ¬ (t = 3 ∧ 1 < (l.length : Int)) from fun h2 => h h2.1)]
theorem impl_j0f {l : List Int} (hB : Byt l) (k : Nat) : impl_ValueFrom.j0 (k + 3) l 1 false (rd l 0) 0 E0 = some (VF0 l) := by
  have hr := byt_rd hB 1
  unfold VF0
  rw [impl_ValueFrom.j0, if_neg (by decide)]
  by_cases h : rd l 0 = 2
  · rw [if_pos h, h]
    by_cases hl : (l.length : Int) > 1
    · rw [if_pos hl, if_pos hl, w64g (n := rd l 1) (by omega), w64g (n := 2 + rd l 1) (by omega)]
      by_cases hg : (l.length : Int) ≥ 2 + rd l 1
      · rw [decide_eq_true hg, if_pos ⟨rfl, hl, hg⟩, impl_ValueFrom.j1, if_pos rfl, if_pos hl, w64g (n := rd l 1) (by omega), w64g (n := 2 + rd l 1) (by omega), if_pos (by omega), if_pos hg, impl_ok]
        unfold Ok4
        by_cases hv : VOk 2 0 (Txt l) = true
        · have hv2 : VOk 2 0 (strOfNums ((l.take (2 + rd l 1).toNat).drop 2)) = true := hv
          simp only [Option.bind_some, hv, hv2, if_true]
          rfl
        · have hv2 : ¬ VOk 2 0 (strOfNums ((l.take (2 + rd l 1).toNat).drop 2)) = true := hv
          simp only [Option.bind_some, hv, hv2, if_false]
          rfl
      · rw [decide_eq_false hg, if_neg (fun h => hg h.2.2), impl_j1f hB]
    · rw [if_neg hl, if_neg (fun h => hl h.2.1), impl_j1f hB]
  · rw [if_neg h, if_neg (fun h2 => h h2.1), impl_j1f hB]
theorem impl_vf {l : List Int} (hB : Byt l) (k : Nat) (hk : 4 ≤ k) : impl_ValueFrom.f k l = some (VF l) := by
  have hr0 := byt_rd hB 0
  have hr1 := byt_rd hB 1
  have hr2 := byt_rd hB 2
  obtain ⟨k, rfl⟩ : ∃ m, k = m + 3 := ⟨k - 3, by omega⟩
  unfold impl_ValueFrom.f VF
  by_cases hz : (l.length : Int) = 0
  · rw [if_pos hz, if_pos hz]
    rfl
  rw [if_neg hz, if_neg hz, if_pos (by omega), w64g (n := rd l 0) (by omega)]
  by_cases h1 : rd l 0 = 1
  · rw [if_pos h1]
    by_cases hl : (l.length : Int) > 2
    · rw [decide_eq_true hl, if_pos ⟨h1, hl⟩, h1, impl_ValueFrom.j0, if_pos rfl, if_pos (by omega), if_pos hl, w64g (n := rd l 1) (by omega), w64g (n := rd l 2) (by omega), w64g (n := rd l 1 * 256) (by omega), w64g (n := rd l 1 * 256 + rd l 2) (by omega), w64g (n := rd l 1 * 256 + rd l 2 - 10000) (by omega), impl_ok, show rd l 1 * 256 + rd l 2 - 10000 = 256 * rd l 1 + rd l 2 - 10000 by omega]
      unfold Ok4
      by_cases hv : VOk 1 (256 * rd l 1 + rd l 2 - 10000) E0 = true
      · have hv2 : VOk 1 (256 * rd l 1 + rd l 2 - 10000) ⟨#[]⟩ = true := hv
        simp only [Option.bind_some, hv, hv2, if_true]
        rfl
      · have hv2 : ¬ VOk 1 (256 * rd l 1 + rd l 2 - 10000) ⟨#[]⟩ = true := hv
        simp only [Option.bind_some, hv, hv2, if_false]
        rfl
    · rw [decide_eq_false hl, if_neg (fun h => hl h.2)]
      exact impl_j0f hB k
  · rw [if_neg h1, if_neg (fun h => h1 h.1)]
    exact impl_j0f hB k

end Go.Proofs.Ytdgikheibcmcjaa.Pure
set_option linter.unusedVariables false
set_option linter.unusedSimpArgs false
namespace Go.Proofs.Ytdgikheibcmcjaa.Pure
open Go.RowKit Go.Proofs.Ytdgikheibcmcjaa.X Go.Proofs.YtdgikheibcmcjaaV.PrintWords Go.Proofs.YtdgikheibcmcjaaV.PrintLast Go.Proofs.YtdgikheibcmcjaaV.PrintMore

theorem l1In_eq (a lo hi : Int) : spec_l1In.f a lo hi = some (decide (lo ≤ a ∧ a ≤ hi)) := by
  unfold spec_l1In.f
  by_cases h : a ≥ lo
  · rw [if_pos h]
    by_cases g : a ≤ hi
    · rw [decide_eq_true g, decide_eq_true ⟨h, g⟩]
    · rw [decide_eq_false g, decide_eq_false (fun h' => g h'.2)]
  · rw [if_neg h, decide_eq_false (fun h' => h h'.1)]

end Go.Proofs.Ytdgikheibcmcjaa.Pure
set_option linter.unusedVariables false
set_option linter.unusedSimpArgs false
namespace Go.Proofs.Ytdgikheibcmcjaa.Pure
open Go.RowKit Go.Proofs.Ytdgikheibcmcjaa.X Go.Proofs.YtdgikheibcmcjaaV.PrintWords Go.Proofs.YtdgikheibcmcjaaV.PrintLast Go.Proofs.YtdgikheibcmcjaaV.PrintMore

theorem bt_nat (s : ByteArray) (i : Nat) (h : i < s.size) : bt s (i : Int) = ((s.data.toList.getD i 0).toNat : Int) := by
  have h1 : (i : Int).toNat < s.size := by omega
  rw [← bt_at s i h1]
  have h2 : i < s.data.toList.length := by rw [data_size]; exact h
  rw [List.getD_eq_getElem?_getD, List.getElem?_eq_getElem h2]
  rfl
theorem text_from (s : ByteArray) (hm : s.size ≤ 9223372036854775807) (d : Nat) : ∀ (k i : Nat), i + d = s.size → d < k →
    spec_l1Text.l0 k s (i : Int) = some (((s.data.toList.drop i).all fun c => decide (97 ≤ c.toNat ∧ c.toNat ≤ 122)) && decide (s.size ≤ 6)) := by
  induction d with
  | zero =>
    intro k i hi hk
    obtain ⟨k, rfl⟩ : ∃ m, k = m + 1 := ⟨k - 1, by omega⟩
    simp only [spec_l1Text.l0]
    rw [if_neg (by omega), List.drop_of_length_le (by rw [data_size]; omega)]
    congr 1
    rw [Bool.eq_iff_iff]
    simp
    omega
  | succ d ih =>
    intro k i hi hk
    obtain ⟨k, rfl⟩ : ∃ m, k = m + 1 := ⟨k - 1, by omega⟩
    have hl : i < s.data.toList.length := by rw [data_size]; omega
    simp only [spec_l1Text.l0]
    rw [if_pos (by omega), if_pos (by omega), bt_nat s i (by omega), List.drop_eq_getElem_cons hl, List.all_cons]
    have e : s.data.toList.getD i 0 = s.data.toList[i] := by rw [List.getD_eq_getElem?_getD, List.getElem?_eq_getElem hl]; rfl
    rw [e]
    generalize s.data.toList[i] = c
    by_cases h1 : (c.toNat : Int) < 97
    · rw [if_pos h1, decide_eq_false (by omega)]
      rfl
    · rw [if_neg h1]
      by_cases h2 : (c.toNat : Int) > 122
      · rw [if_pos h2, decide_eq_false (by omega)]
        rfl
      · rw [if_neg h2, decide_eq_true (by omega), Bool.true_and]
        have ew : wrap64 ((i : Int) + 1) = ((i + 1 : Nat) : Int) := by unfold wrap64; omega
        rw [ew]
        exact ih k (i + 1) (by omega) (by omega)
theorem text_eq (s : ByteArray) (hm : s.size ≤ maxLen) (k : Nat) (hk : s.size < k) : spec_l1Text.f k s = some (Low s && decide (s.size ≤ 6)) := by
  unfold spec_l1Text.f
  have := text_from s (by simpa [maxLen] using hm) s.size k 0 (by omega) hk
  rw [List.drop_zero] at this
  exact this
theorem spec_ok (t n : Int) (s : ByteArray) (hm : s.size ≤ maxLen) (k : Nat) (hk : s.size < k) : spec_ValueOk.f k t n s = some (VOk t n s) := by
  unfold spec_ValueOk.f
  by_cases h0 : t = 0
  · rw [if_pos h0, vok0 h0, nil_beq]
    by_cases hn : n = 0 <;> simp [hn]
  rw [if_neg h0]
  by_cases h1 : t = 1
  · rw [if_pos h1, vok1 h1, l1In_eq, nil_beq]
    by_cases hn : -9999 ≤ n ∧ n ≤ 9999 <;> simp [hn]
  rw [if_neg h1]
  by_cases h2 : t = 2
  · rw [if_pos h2, vok2 h2, text_eq s hm k hk]
    by_cases hn : n = 0 <;> simp [hn, Bool.and_comm]
  rw [if_neg h2]
  by_cases h3 : t = 3
  · rw [if_pos h3, vok3 h3, l1In_eq, nil_beq]
    by_cases hn : 0 ≤ n ∧ n ≤ 1 <;> simp [hn]
  · rw [if_neg h3, vokx h0 h1 h2 h3]

end Go.Proofs.Ytdgikheibcmcjaa.Pure
set_option linter.unusedVariables false
set_option linter.unusedSimpArgs false
namespace Go.Proofs.Ytdgikheibcmcjaa.Pure
open Go.RowKit Go.Proofs.Ytdgikheibcmcjaa.X Go.Proofs.YtdgikheibcmcjaaV.PrintWords Go.Proofs.YtdgikheibcmcjaaV.PrintLast Go.Proofs.YtdgikheibcmcjaaV.PrintMore

theorem impl_vbytes (t n : Int) (s : ByteArray) : impl_ValueBytes.f t n s = some (VB t n s) := by
  unfold impl_ValueBytes.f
  rw [impl_ok]
  simp only [Option.bind_some]
  by_cases h : VOk t n s = true
  · rw [if_pos h, impl_vb h]
  · rw [if_neg h]
    unfold VB
    rw [if_neg h]

end Go.Proofs.Ytdgikheibcmcjaa.Pure
set_option linter.unusedVariables false
set_option linter.unusedSimpArgs false
namespace Go.Proofs.Ytdgikheibcmcjaa.Pure
open Go.RowKit Go.Proofs.Ytdgikheibcmcjaa.X Go.Proofs.YtdgikheibcmcjaaV.PrintWords Go.Proofs.YtdgikheibcmcjaaV.PrintLast Go.Proofs.YtdgikheibcmcjaaV.PrintMore

theorem spec_vbytes (t n : Int) (s : ByteArray) (hm : s.size ≤ maxLen) (k : Nat) (hk : s.size < k) : spec_ValueBytes.f k t n s = some (VB t n s) := by
  unfold spec_ValueBytes.f VB
  rw [spec_ok t n s hm k hk]
  simp only [Option.bind_some]
  by_cases h : VOk t n s = true
  · rw [if_pos h, if_pos h]
    rcases vok_cases h with ⟨rfl, rfl, h3⟩ | ⟨rfl, h3, h4, h5⟩ | ⟨rfl, rfl, h3, h4⟩ | ⟨rfl, h3, h4, h5⟩
    · rfl
    · simp only [if_true]
      have e0 : Int.tdiv (n + 10000) 256 = (n + 10000) / 256 := Int.tdiv_eq_ediv_of_nonneg (by omega)
      have e2 : Int.tmod (n + 10000) 256 = (n + 10000) % 256 := Int.tmod_eq_emod_of_nonneg (by omega)
      rw [w64g (n := n + 10000) (by omega), e0, e2, w64g (n := (n + 10000) / 256) (by omega), if_pos (by simp)]
      have e1 : (n + 10000) / 256 % 256 = (n + 10000) / 256 := by omega
      have e3 : (n + 10000) % 256 % 256 = (n + 10000) % 256 := by omega
      rw [e1, e3]
      rfl
    · have e1 : (s.size : Int) % 256 = s.size := by omega
      simp only [show ((2 : Int) = 1) = False from eq_false (by decide), if_false, if_true, e1]
      rw [if_pos (by simp), if_pos (by simp; omega)]
      rfl
    · have e1 : n % 256 = n := by omega
      simp only [show ((3 : Int) = 1) = False from eq_false (by decide), show ((3 : Int) = 2) = False from eq_false (by decide), if_false, if_true, e1]
      rw [if_pos (by simp)]
      rfl
  · rw [if_neg h, if_neg h]

end Go.Proofs.Ytdgikheibcmcjaa.Pure
set_option linter.unusedVariables false
set_option linter.unusedSimpArgs false
namespace Go.Proofs.Ytdgikheibcmcjaa.Pure
open Go.RowKit Go.Proofs.Ytdgikheibcmcjaa.X Go.Proofs.YtdgikheibcmcjaaV.PrintWords Go.Proofs.YtdgikheibcmcjaaV.PrintLast Go.Proofs.YtdgikheibcmcjaaV.PrintMore

def Fin4 (t n : Int) (s : ByteArray) (l : List Int) : Int × Int × ByteArray × Int :=
  if VOk t n s = true ∧ VB t n s = l.take (VB t n s).length then (t, n, s, ((VB t n s).length : Int)) else Z4
theorem vb_nil {t n : Int} {s : ByteArray} : (VB t n s).length = 0 ↔ ¬ VOk t n s = true := by
  constructor
  · intro h hv
    unfold VB at h
    rw [if_pos hv] at h
    split at h
    · simp at h
    · split at h
      · simp at h
      · split at h <;> simp at h
  · intro h
    unfold VB
    rw [if_neg h]
    rfl
theorem fin_eq {l : List Int} (hB : Byt l) (t n : Int) (s : ByteArray) :
    (if ((VB t n s).length : Int) = 0 then (some (0, 0, (⟨#[]⟩ : ByteArray), 0)) else (if ((VB t n s).length : Int) > (l.length : Int) then (some (0, 0, (⟨#[]⟩ : ByteArray), 0)) else (if 0 ≤ ((VB t n s).length : Int) then (if ((VB t n s).length : Int) ≤ (l.length : Int) then (if (strOfNums (VB t n s)).toList = (strOfNums (l.take (((VB t n s).length : Int) : Int).toNat)).toList then (some (t, n, s, ((VB t n s).length : Int))) else (some (0, 0, (⟨#[]⟩ : ByteArray), 0))) else (none)) else (none)))) = some (Fin4 t n s l) := by
  unfold Fin4
  by_cases hv : VOk t n s = true
  · have h0 : ¬ (VB t n s).length = 0 := fun h => vb_nil.1 h hv
    rw [if_neg (by omega)]
    by_cases hl : ((VB t n s).length : Int) > (l.length : Int)
    · rw [if_pos hl, if_neg]
      · rfl
      · intro h
        have := congrArg List.length h.2
        rw [List.length_take] at this
        omega
    · rw [if_neg hl, if_pos (by omega), if_pos (by omega), Int.toNat_natCast]
      by_cases he : VB t n s = l.take (VB t n s).length
      · rw [if_pos ((str_inj vb_byte (byt_take hB _)).2 he), if_pos ⟨hv, he⟩]
      · rw [if_neg (fun h => he ((str_inj vb_byte (byt_take hB _)).1 h)), if_neg (fun h => he h.2)]
        rfl
  · have h0 := vb_nil.2 hv
    rw [if_pos (by omega), if_neg (fun h => hv h.1)]
    rfl
theorem spec_j2f {l : List Int} (hB : Byt l) (t : Int) (k : Nat) (hk : 1 ≤ k) : spec_ValueFrom.j2 (k + 1) l false t 0 E0 = some (Fin4 t 0 E0 l) := by
  rw [spec_ValueFrom.j2, if_neg (by decide), spec_vbytes t 0 E0 (by decide) k (by show 0 < k; omega)]
  simp only [Option.bind_some]
  exact fin_eq hB t 0 E0
theorem spec_j1f {l : List Int} (hB : Byt l) (t : Int) (k : Nat) (hk : 1 ≤ k) : spec_ValueFrom.j1 (k + 2) l false t 0 E0 = some (if t = 3 ∧ 1 < (l.length : Int) then Fin4 3 (rd l 1) E0 l else Fin4 t 0 E0 l) := by
  rw [spec_ValueFrom.j1, if_neg (by decide)]
  by_cases h : t = 3
  · subst h
    rw [if_pos rfl]
    by_cases hl : (l.length : Int) > 1
    · have hr := byt_rd hB 1
      rw [decide_eq_true hl, if_pos ⟨rfl, hl⟩, spec_ValueFrom.j2, if_pos rfl, if_pos hl, w64g (n := rd l 1) (by omega), spec_vbytes 3 (rd l 1) E0 (by decide) k (by show 0 < k; omega)]
      simp only [Option.bind_some]
      exact fin_eq hB 3 (rd l 1) E0
    · rw [decide_eq_false hl, if_neg (fun h => hl h.2), spec_j2f hB _ _ hk]
  · rw [if_neg h, spec_j2f hB _ _ hk, if_neg (show ¬ (t = 3 ∧ 1 < (l.length : Int)) from fun h2 => h h2.1)]
theorem txt_size {l : List Int} (hB : Byt l) (h : 2 + rd l 1 ≤ (l.length : Int)) : ((Txt l).size : Int) = rd l 1 := by
  have := byt_rd hB 1
  unfold Txt
  rw [strOfNums_size, List.length_drop, List.length_take]
  omega
theorem spec_j0f {l : List Int} (hB : Byt l) (k : Nat) (hk : 300 ≤ k) : spec_ValueFrom.j0 (k + 3) l false (rd l 0) 0 E0 = some (if rd l 0 = 2 ∧ 1 < (l.length : Int) ∧ 2 + rd l 1 ≤ (l.length : Int) then Fin4 2 0 (Txt l) l else if rd l 0 = 3 ∧ 1 < (l.length : Int) then Fin4 3 (rd l 1) E0 l else Fin4 (rd l 0) 0 E0 l) := by
  have hr := byt_rd hB 1
  rw [spec_ValueFrom.j0, if_neg (by decide)]
  by_cases h : rd l 0 = 2
  · rw [if_pos h, h]
    by_cases hl : (l.length : Int) > 1
    · rw [if_pos hl, if_pos hl, w64g (n := rd l 1) (by omega), w64g (n := 2 + rd l 1) (by omega)]
      by_cases hg : (l.length : Int) ≥ 2 + rd l 1
      · have hs := txt_size hB hg
        rw [decide_eq_true hg, if_pos ⟨rfl, hl, hg⟩, spec_ValueFrom.j1, if_pos rfl, if_pos hl, w64g (n := rd l 1) (by omega), w64g (n := 2 + rd l 1) (by omega), if_pos (by omega), if_pos hg]
        show ((spec_ValueBytes.f (k + 1) 2 0 (Txt l)).bind _) = _
        rw [spec_vbytes 2 0 (Txt l) (by simp only [maxLen]; omega) (k + 1) (by omega)]
        simp only [Option.bind_some]
        exact fin_eq hB 2 0 (Txt l)
      · rw [decide_eq_false hg, if_neg (fun h => hg h.2.2), spec_j1f hB _ k (by omega)]
    · rw [if_neg hl, if_neg (fun h => hl h.2.1), spec_j1f hB _ k (by omega)]
  · rw [if_neg h, if_neg (fun h2 => h h2.1), spec_j1f hB _ k (by omega)]
theorem list1 {l : List Int} (h : ¬ (l.length : Int) = 0) : l.take 1 = [rd l 0] := by
  cases l with
  | nil => exact absurd rfl h
  | cons a m => rfl
theorem list2 {l : List Int} (h : 1 < (l.length : Int)) : l.take 2 = [rd l 0, rd l 1] := by
  match l, h with
  | a :: b :: m, _ => rfl
  | [a], h => simp at h
  | [], h => simp at h
theorem list3 {l : List Int} (h : 2 < (l.length : Int)) : l.take 3 = [rd l 0, rd l 1, rd l 2] := by
  match l, h with
  | a :: b :: c :: m, _ => rfl
  | [a, b], h => simp at h
  | [a], h => simp at h
  | [], h => simp at h
theorem fin1 {l : List Int} (hB : Byt l) (h0 : rd l 0 = 1) (h : 2 < (l.length : Int)) : Fin4 1 (256 * rd l 1 + rd l 2 - 10000) E0 l = Ok4 1 (256 * rd l 1 + rd l 2 - 10000) E0 3 := by
  have h1 := byt_rd hB 1
  have h2 := byt_rd hB 2
  unfold Fin4 Ok4
  by_cases hv : VOk 1 (256 * rd l 1 + rd l 2 - 10000) E0 = true
  · have e : VB 1 (256 * rd l 1 + rd l 2 - 10000) E0 = [1, rd l 1, rd l 2] := by
      unfold VB
      rw [if_pos hv, if_pos rfl, show (256 * rd l 1 + rd l 2 - 10000 + 10000) / 256 = rd l 1 by omega, show (256 * rd l 1 + rd l 2 - 10000 + 10000) % 256 = rd l 2 by omega]
    rw [e, if_pos ⟨hv, by show _ = l.take 3; rw [list3 h, h0]⟩, if_pos hv]
    rfl
  · rw [if_neg (fun h => hv h.1), if_neg hv]
theorem fin2 {l : List Int} (hB : Byt l) (h0 : rd l 0 = 2) (h : 1 < (l.length : Int)) (hg : 2 + rd l 1 ≤ (l.length : Int)) : Fin4 2 0 (Txt l) l = Ok4 2 0 (Txt l) (2 + rd l 1) := by
  have h1 := byt_rd hB 1
  have hs := txt_size hB hg
  unfold Fin4 Ok4
  by_cases hv : VOk 2 0 (Txt l) = true
  · have e : VB 2 0 (Txt l) = l.take (2 + rd l 1).toNat := by
      unfold VB
      rw [if_pos hv, if_neg (by decide), if_pos rfl, hs]
      unfold Txt
      rw [bytesOf_str (byt_drop (byt_take hB _) _)]
      have h3 : (l.take (2 + rd l 1).toNat).take 2 = [2, rd l 1] := by
        rw [List.take_take, show min 2 (2 + rd l 1).toNat = 2 by omega, list2 h, h0]
      calc (2 : Int) :: rd l 1 :: (l.take (2 + rd l 1).toNat).drop 2 = (l.take (2 + rd l 1).toNat).take 2 ++ (l.take (2 + rd l 1).toNat).drop 2 := by rw [h3]; rfl
        _ = _ := List.take_append_drop _ _
    have hlen : (VB 2 0 (Txt l)).length = (2 + rd l 1).toNat := by rw [e, List.length_take]; omega
    rw [if_pos ⟨hv, by rw [hlen]; exact e⟩, if_pos hv, hlen]
    congr 3
    omega
  · rw [if_neg (fun h => hv h.1), if_neg hv]
theorem fin3 {l : List Int} (hB : Byt l) (h0 : rd l 0 = 3) (h : 1 < (l.length : Int)) : Fin4 3 (rd l 1) E0 l = Ok4 3 (rd l 1) E0 2 := by
  unfold Fin4 Ok4
  by_cases hv : VOk 3 (rd l 1) E0 = true
  · have e : VB 3 (rd l 1) E0 = [3, rd l 1] := by
      unfold VB
      rw [if_pos hv, if_neg (by decide), if_neg (by decide), if_pos rfl]
    rw [e, if_pos ⟨hv, by show _ = l.take 2; rw [list2 h, h0]⟩, if_pos hv]
    rfl
  · rw [if_neg (fun h => hv h.1), if_neg hv]
theorem finx {l : List Int} (hB : Byt l) (hz : ¬ (l.length : Int) = 0) (h1 : ¬ (rd l 0 = 1 ∧ 2 < (l.length : Int))) (h2 : ¬ (rd l 0 = 2 ∧ 1 < (l.length : Int) ∧ 2 + rd l 1 ≤ (l.length : Int))) (h3 : ¬ (rd l 0 = 3 ∧ 1 < (l.length : Int))) :
    Fin4 (rd l 0) 0 E0 l = if rd l 0 = 0 then (0, 0, E0, 1) else Z4 := by
  have hr := byt_rd hB 1
  unfold Fin4
  by_cases t0 : rd l 0 = 0
  · have e : VB 0 0 E0 = [0] := by decide
    rw [t0, e, if_pos ⟨vok_zero, by show _ = l.take 1; rw [list1 hz, t0]⟩]
    rfl
  rw [if_neg t0, if_neg]
  rintro ⟨hv, he⟩
  have hk := vok_kind hv
  obtain t1 | t2 | t3 : rd l 0 = 1 ∨ rd l 0 = 2 ∨ rd l 0 = 3 := by omega
  · have e : VB 1 0 E0 = [1, 39, 16] := by decide
    rw [t1, e] at he
    have := congrArg List.length he
    rw [List.length_take] at this
    simp only [List.length_cons, List.length_nil] at this
    omega
  · have e : VB 2 0 E0 = [2, 0] := by decide
    rw [t2, e] at he
    have hl := congrArg List.length he
    rw [List.length_take] at hl
    simp only [List.length_cons, List.length_nil] at hl
    have he : [2, 0] = l.take 2 := he
    rw [list2 (by omega), t2] at he
    have : (0 : Int) = rd l 1 := by simpa using he
    omega
  · have e : VB 3 0 E0 = [3, 0] := by decide
    rw [t3, e] at he
    have := congrArg List.length he
    rw [List.length_take] at this
    simp only [List.length_cons, List.length_nil] at this
    omega
theorem spec_vf {l : List Int} (hB : Byt l) (k : Nat) (hk : 400 ≤ k) : spec_ValueFrom.f k l = some (VF l) := by
  have hr0 := byt_rd hB 0
  have hr1 := byt_rd hB 1
  have hr2 := byt_rd hB 2
  obtain ⟨k, rfl⟩ : ∃ m, k = m + 3 := ⟨k - 3, by omega⟩
  unfold spec_ValueFrom.f VF
  by_cases hz : (l.length : Int) = 0
  · rw [if_pos hz, if_pos hz]
    rfl
  rw [if_neg hz, if_neg hz, if_pos (by omega), w64g (n := rd l 0) (by omega)]
  have main : ¬ (rd l 0 = 1 ∧ 2 < (l.length : Int)) → spec_ValueFrom.j0 (k + 3) l false (rd l 0) 0 E0 = some (VF0 l) := by
    intro h1
    rw [spec_j0f hB k (by omega)]
    unfold VF0
    by_cases h2 : rd l 0 = 2 ∧ 1 < (l.length : Int) ∧ 2 + rd l 1 ≤ (l.length : Int)
    · rw [if_pos h2, if_pos h2, fin2 hB h2.1 h2.2.1 h2.2.2]
    · rw [if_neg h2, if_neg h2]
      by_cases h3 : rd l 0 = 3 ∧ 1 < (l.length : Int)
      · rw [if_pos h3, if_pos h3, fin3 hB h3.1 h3.2]
      · rw [if_neg h3, if_neg h3, finx hB hz h1 h2 h3]
  by_cases h1 : rd l 0 = 1
  · rw [if_pos h1]
    by_cases hl : (l.length : Int) > 2
    · rw [decide_eq_true hl, if_pos ⟨h1, hl⟩, spec_ValueFrom.j0, if_pos rfl, if_pos (by omega), if_pos hl, w64g (n := rd l 1) (by omega), w64g (n := rd l 2) (by omega), w64g (n := 256 * rd l 1) (by omega), w64g (n := 256 * rd l 1 + rd l 2) (by omega), w64g (n := 256 * rd l 1 + rd l 2 - 10000) (by omega), h1]
      show ((spec_ValueBytes.f (k + 2) 1 (256 * rd l 1 + rd l 2 - 10000) E0).bind _) = _
      rw [spec_vbytes 1 (256 * rd l 1 + rd l 2 - 10000) E0 (by decide) (k + 2) (by show 0 < k + 2; omega)]
      simp only [Option.bind_some]
      rw [← fin1 hB h1 hl]
      exact fin_eq hB 1 (256 * rd l 1 + rd l 2 - 10000) E0
    · rw [decide_eq_false hl, if_neg (fun h => hl h.2)]
      exact main (fun h => hl h.2)
  · rw [if_neg h1, if_neg (fun h => h1 h.1)]
    exact main (fun h => h1 h.1)

end Go.Proofs.Ytdgikheibcmcjaa.Pure
set_option linter.unusedVariables false
set_option linter.unusedSimpArgs false
namespace Go.Proofs.Ytdgikheibcmcjaa.Pure
open Go.RowKit Go.Proofs.Ytdgikheibcmcjaa.X Go.Proofs.YtdgikheibcmcjaaV.PrintWords Go.Proofs.YtdgikheibcmcjaaV.PrintLast Go.Proofs.YtdgikheibcmcjaaV.PrintMore

theorem alive_eq : laws_alive.f = some true := by decide +kernel

end Go.Proofs.Ytdgikheibcmcjaa.Pure
set_option linter.unusedVariables false
set_option linter.unusedSimpArgs false
namespace Go.Proofs.Ytdgikheibcmcjaa.Pure
open Go.RowKit Go.Proofs.Ytdgikheibcmcjaa.X Go.Proofs.YtdgikheibcmcjaaV.PrintWords Go.Proofs.YtdgikheibcmcjaaV.PrintLast Go.Proofs.YtdgikheibcmcjaaV.PrintMore

theorem byt_app {a b : List Int} (ha : Byt a) (hb : Byt b) : Byt (a ++ b) := fun x hx => (List.mem_append.1 hx).elim (ha x) (hb x)
theorem byt_set {a : List Int} (ha : Byt a) (i : Nat) (v : Int) (hv : 0 ≤ v ∧ v ≤ 255) : Byt (a.set i v) := fun x hx => (List.mem_or_eq_of_mem_set hx).elim (ha x) (fun h => h ▸ hv)
theorem j2_ok {b : List Int} (hB : Bytes b) (x : List Int) (hx : Byt x) (hl : x.length ≤ 1000) (p : Int) (hp : 0 ≤ p) (hp2 : p ≤ 900000) (k : Nat) : ∃ c, Byt c ∧ c.length ≤ 1000 ∧ spec_DrawValueFrom.j2 (k + 2) x b p = some c := by
  rw [spec_DrawValueFrom.j2]
  simp only [Option.bind_some, List.nil_append, List.length_nil]
  by_cases h : (x.length : Int) > 0
  · rw [if_pos h]
    obtain ⟨r, hr, _⟩ := pick_ok hB p 5 hp (by omega) (by decide)
    rw [hr (k + 1) (by omega)]
    simp only [Option.bind_some]
    by_cases h0 : r = 0
    · rw [if_pos h0]
      obtain ⟨q, hq, q0, q1, _⟩ := pick_ok hB (p + 1) (x.length : Int) (by omega) (by omega) (by omega)
      have q1 := q1 (by omega)
      rw [hq (k + 1) (by omega)]
      simp only [Option.bind_some]
      rw [if_pos q0, if_pos (by omega), if_pos (by rw [List.length_take]; omega)]
      exact ⟨_, byt_take hx _, by rw [List.length_take]; omega, rfl⟩
    · rw [if_neg h0, if_pos (by omega)]
      exact ⟨_, hx, hl, rfl⟩
  · rw [if_neg h, if_pos (by omega)]
    exact ⟨_, hx, hl, rfl⟩
theorem j1_ok {b : List Int} (hB : Bytes b) (x : List Int) (hx : Byt x) (hl : x.length ≤ 1000) (p : Int) (hp : 0 ≤ p) (hp2 : p ≤ 800000) (y : Bool) (hy : y = true → 0 < x.length) (k : Nat) : ∃ c, Byt c ∧ c.length ≤ 1000 ∧ spec_DrawValueFrom.j1 (k + 3) x y b p = some c := by
  rw [spec_DrawValueFrom.j1]
  cases y with
  | false =>
    rw [if_neg (by decide)]
    exact j2_ok hB x hx hl p hp (by omega) k
  | true =>
    have hy := hy rfl
    rw [if_pos rfl]
    obtain ⟨q, hq, q0, q1, _⟩ := pick_ok hB p (x.length : Int) hp (by omega) (by omega)
    have q1 := q1 (by omega)
    obtain ⟨r, hr, _⟩ := pick_ok hB (p + 1) 256 (by omega) (by omega) (by decide)
    rw [hq (k + 2) (by omega)]
    simp only [Option.bind_some]
    rw [hr (k + 2) (by omega)]
    simp only [Option.bind_some]
    rw [if_pos q0, if_pos q1]
    exact j2_ok hB _ (byt_set hx _ _ (by omega)) (by rw [List.length_set]; exact hl) (p + 1 + 1) (by omega) (by omega) k
theorem l0_ok {b : List Int} (hB : Bytes b) : ∀ (m : Nat) (x : List Int) (_ : Byt x) (_ : x.length + m ≤ 500) (p : Int) (_ : 0 ≤ p) (_ : p + m ≤ 700000) (k : Nat), m + 10 ≤ k → ∃ c, Byt c ∧ c.length ≤ 1000 ∧ spec_DrawValueFrom.l0 k x (m : Int) b p = some c
  | 0, x, hx, hl, p, hp, hp2, k, hk => by
    obtain ⟨k, rfl⟩ : ∃ j, k = j + 4 := ⟨k - 4, by omega⟩
    rw [spec_DrawValueFrom.l0, if_neg (by decide)]
    by_cases h : (x.length : Int) > 0
    · rw [if_pos h]
      obtain ⟨r, hr, _⟩ := pick_ok hB p 4 hp (by omega) (by decide)
      rw [hr (k + 3) (by omega)]
      simp only [Option.bind_some]
      exact j1_ok hB x hx (by omega) (p + 1) (by omega) (by omega) _ (fun _ => by omega) k
    · rw [if_neg h]
      exact j1_ok hB x hx (by omega) p hp (by omega) false (fun h => by cases h) k
  | m + 1, x, hx, hl, p, hp, hp2, k, hk => by
    obtain ⟨k, rfl⟩ : ∃ j, k = j + 1 := ⟨k - 1, by omega⟩
    rw [spec_DrawValueFrom.l0, if_pos (by omega)]
    obtain ⟨r, hr, r0, r1, _⟩ := pick_ok hB p 256 hp (by omega) (by decide)
    rw [hr k (by omega)]
    simp only [Option.bind_some]
    rw [if_pos (by omega), w64g (n := ((m + 1 : Nat) : Int) - 1) (by omega), show ((m + 1 : Nat) : Int) - 1 = (m : Int) by omega]
    exact l0_ok hB m _ (byt_app hx (fun y hy => by rw [List.mem_singleton] at hy; omega)) (by rw [List.length_append, List.length_singleton]; omega) (p + 1) (by omega) (by omega) k (by omega)
theorem vf_fin {l : List Int} (hB : Byt l) (hz : ¬ (l.length : Int) = 0) : ∃ t n s, VF l = Fin4 t n s l := by
  unfold VF
  rw [if_neg hz]
  by_cases h1 : rd l 0 = 1 ∧ 2 < (l.length : Int)
  · rw [if_pos h1]
    exact ⟨_, _, _, (fin1 hB h1.1 h1.2).symm⟩
  rw [if_neg h1]
  unfold VF0
  by_cases h2 : rd l 0 = 2 ∧ 1 < (l.length : Int) ∧ 2 + rd l 1 ≤ (l.length : Int)
  · rw [if_pos h2]
    exact ⟨_, _, _, (fin2 hB h2.1 h2.2.1 h2.2.2).symm⟩
  rw [if_neg h2]
  by_cases h3 : rd l 0 = 3 ∧ 1 < (l.length : Int)
  · rw [if_pos h3]
    exact ⟨_, _, _, (fin3 hB h3.1 h3.2).symm⟩
  rw [if_neg h3]
  exact ⟨_, _, _, (finx hB hz h1 h2 h3).symm⟩
theorem short_none {t n : Int} {s : ByteArray} (hv : VOk t n s = true) : (VF ((VB t n s).take ((VB t n s).length - 1))).2.2.2 = 0 := by
  have hsz : s.size = 0 → s = E0 := by
    intro h
    cases s with
    | mk d => exact congrArg ByteArray.mk (Array.eq_empty_of_size_eq_zero h)
  rcases vok_cases hv with ⟨rfl, rfl, h3⟩ | ⟨rfl, h3, h4, h5⟩ | ⟨rfl, rfl, h3, h4⟩ | ⟨rfl, h3, h4, h5⟩
  · obtain rfl := hsz h3
    have e : VB 0 0 E0 = [0] := by decide
    rw [e]
    rfl
  · have e : VB 1 n s = [1, (n + 10000) / 256, (n + 10000) % 256] := by unfold VB; rw [if_pos hv, if_pos rfl]
    rw [e]
    show (VF [1, (n + 10000) / 256]).2.2.2 = 0
    have r0 : rd [1, (n + 10000) / 256] 0 = 1 := rfl
    unfold VF VF0
    rw [if_neg (by simp), if_neg (by simp), if_neg (by rw [r0]; omega), if_neg (by rw [r0]; omega), if_neg (by rw [r0]; omega)]
    rfl
  · have e : VB 2 0 s = 2 :: (s.size : Int) :: bytesOf s := by unfold VB; rw [if_pos hv, if_neg (by decide), if_pos rfl]
    rw [e]
    simp only [List.length_cons, bytes_len, Nat.add_sub_cancel]
    by_cases h0 : s.size = 0
    · rw [h0]
      show (VF [2]).2.2.2 = 0
      decide
    · obtain ⟨m, hm⟩ : ∃ m, s.size = m + 1 := ⟨s.size - 1, by omega⟩
      have hc : (2 :: (s.size : Int) :: bytesOf s).take (s.size + 1) = 2 :: (s.size : Int) :: (bytesOf s).take m := by rw [List.take_succ_cons, hm, List.take_succ_cons]
      rw [hc]
      have r0 : rd (2 :: (s.size : Int) :: (bytesOf s).take m) 0 = 2 := rfl
      have r1 : rd (2 :: (s.size : Int) :: (bytesOf s).take m) 1 = s.size := rfl
      unfold VF VF0
      rw [if_neg (by simp only [List.length_cons]; omega), if_neg (by rw [r0]; omega), if_neg (by rw [r1]; simp only [List.length_cons, List.length_take, bytes_len]; omega), if_neg (by rw [r0]; omega), if_neg (by rw [r0]; omega)]
      rfl
  · have e : VB 3 n s = [3, n] := by unfold VB; rw [if_pos hv, if_neg (by decide), if_neg (by decide), if_pos rfl]
    rw [e]
    show (VF [3]).2.2.2 = 0
    decide
theorem FnValueFrom : laws_FnValueFrom.Pure := by
  intro l ⟨hl, hw⟩
  refine ⟨600, ?_⟩
  unfold laws_FnValueFrom.f
  by_cases hg : (l.length : Int) > 1048576
  · rw [if_pos hg]
  rw [if_neg hg]
  obtain ⟨b, hs, hB⟩ := open_ok hw
  obtain ⟨t, n, s, p, hd, hp0, hp1, hz⟩ := draw_ok hB 0 30 (by decide) (by decide) (by decide)
  have hd : spec_l20Value.f 600 b 0 30 = some (t, n, s, p) := hd 600 (by decide)
  obtain ⟨r, hr, r0, r1, _⟩ := pick_ok hB p 3 (by omega) (by omega) (by decide)
  have r1 := r1 (by decide)
  have hlen := vb_len t n s
  obtain ⟨c, hc, hcl, hdr⟩ : ∃ c, Byt c ∧ c.length ≤ 1000 ∧ spec_DrawValueFrom.f 600 l = some c := by
    obtain ⟨c, hc, hcl, h⟩ := l0_ok hB r.toNat (VB t n s) vb_byte (by omega) (p + 1) (by omega) (by omega) 600 (by omega)
    refine ⟨c, hc, hcl, ?_⟩
    unfold spec_DrawValueFrom.f
    rw [hs]
    simp only [Option.bind_some]
    rw [hd]
    simp only [Option.bind_some]
    rw [spec_vbytes t n s (by simp only [maxLen]; omega) 600 (by omega)]
    simp only [Option.bind_some]
    rw [hr 600 (by decide)]
    simp only [Option.bind_some]
    rw [show r = (r.toNat : Int) by omega]
    exact h
  rw [hdr]
  simp only [Option.bind_some]
  rw [impl_vf hc 600 (by decide), spec_vf hc 600 (by decide)]
  simp only [Option.bind_some]
  rw [if_neg (by simp)]
  have hne : ((VF c).2.2.2 != (VF c).2.2.2) = false := by simp
  rw [hne]
  show laws_FnValueFrom.j0 (599 + 1) c _ false _ _ _ = some true
  rw [laws_FnValueFrom.j0, if_neg (by decide)]
  by_cases h0 : (VF c).2.2.2 = 0
  · rw [if_pos h0, alive_eq]
    rfl
  rw [if_neg h0]
  have hcz : ¬ (c.length : Int) = 0 := by
    intro h
    refine h0 ?_
    unfold VF
    rw [if_pos h]
    rfl
  obtain ⟨t', n', s', hf⟩ := vf_fin hc hcz
  by_cases hv : VOk t' n' s' = true ∧ VB t' n' s' = c.take (VB t' n' s').length
  · have e : VF c = (t', n', s', ((VB t' n' s').length : Int)) := by rw [hf]; unfold Fin4; rw [if_pos hv]
    have hl' := vb_len t' n' s'
    have hle : (VB t' n' s').length ≤ c.length := by
      have := congrArg List.length hv.2
      rw [List.length_take] at this
      omega
    rw [e] at h0 ⊢
    have h0 : ¬ ((VB t' n' s').length : Int) = 0 := h0
    show ((some (([] : List Int) : List Int)).bind fun y456 => (if 0 ≤ (wrap64 (((VB t' n' s').length : Int) - 1)) then _ else _)) = some true
    simp only [Option.bind_some, List.nil_append, List.length_nil]
    rw [w64g (n := ((VB t' n' s').length : Int) - 1) (by omega), if_pos (by omega), if_pos (by omega), if_pos (by rw [List.length_take]; omega), impl_vf (byt_take hc _) 599 (by decide)]
    simp only [Option.bind_some]
    rw [impl_vbytes]
    simp only [Option.bind_some]
    rw [if_pos (by omega), if_pos (by omega), Int.toNat_natCast, if_pos (by rw [← hv.2])]
    have hsh : c.take (((VB t' n' s').length : Int) - 1).toNat = (VB t' n' s').take ((VB t' n' s').length - 1) := by
      rw [show (((VB t' n' s').length : Int) - 1).toNat = (VB t' n' s').length - 1 by omega]
      conv => rhs; rw [hv.2]
      rw [List.take_take, ← hv.2]
      congr 1
      omega
    rw [hsh, short_none hv.1]
    rfl
  · refine absurd ?_ h0
    rw [hf]
    unfold Fin4
    rw [if_neg hv]
    rfl

end Go.Proofs.Ytdgikheibcmcjaa.Pure
