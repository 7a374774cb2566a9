/- What is known of one value: FnKnownOf returns true for every list of bytes; no condition. -/
import Derived.Test.YtokphjnpkaipcaaVMore
import Derived.Test.YtokphjnpkaipcaaX0
import Derived.Test.YtokphjnpkaipcaaZFnKnownOf8
set_option linter.unusedVariables false
set_option linter.unusedSimpArgs false
namespace Go.Proofs.Ytokphjnpkaipcaa.Pure
open Go.RowKit Go.Proofs.Ytokphjnpkaipcaa.X Go.Proofs.YtokphjnpkaipcaaV.PrintWords Go.Proofs.YtokphjnpkaipcaaV.PrintLast Go.Proofs.YtokphjnpkaipcaaV.PrintMore

theorem w64 {n : Int} (h : -9223372036854775808 ≤ n ∧ n ≤ 9223372036854775807) : wrap64 n = n := by unfold wrap64; omega
theorem xor_range (a b : Int) (ha : 0 ≤ a) (ha2 : a < 4294967296) (hb : 0 ≤ b) (hb2 : b < 4294967296) : 0 ≤ Go.bits .xor .i64 a b ∧ Go.bits .xor .i64 a b < 4294967296 := by
  obtain ⟨x, rfl⟩ := Int.eq_ofNat_of_zero_le ha
  obtain ⟨y, rfl⟩ := Int.eq_ofNat_of_zero_le hb
  have hx : x < 2 ^ 32 := by omega
  have hy : y < 2 ^ 32 := by omega
  have h1 : x % 2 ^ IntKind.i64.bits = x := Nat.mod_eq_of_lt (Nat.lt_of_lt_of_le hx (by decide))
  have h2 : y % 2 ^ IntKind.i64.bits = y := Nat.mod_eq_of_lt (Nat.lt_of_lt_of_le hy (by decide))
  have hz : x ^^^ y < 2 ^ 32 := Nat.xor_lt_two_pow hx hy
  have e : Go.bits .xor .i64 (x : Int) (y : Int) = ((x ^^^ y : Nat) : Int) := by
    simp only [Go.bits, BitVec.ofInt_natCast, BitVec.toNat_xor, BitVec.toNat_ofNat, h1, h2]
    rw [IntKind.wrap_i64]
    omega
  rw [e]
  omega
/-- At most 2000 bytes. -/
def Bytes (s : List Int) : Prop := s.length ≤ 2000 ∧ ∀ x ∈ s, 0 ≤ x ∧ x ≤ 255
theorem rd_byte {s : List Int} (hs : Bytes s) (i : Int) : 0 ≤ rd s i ∧ rd s i ≤ 255 := by
  unfold rd
  rw [List.getD_eq_getElem?_getD]
  cases h : s[i.toNat]? with
  | none => simp
  | some x => exact hs.2 x (List.mem_of_getElem? h)
theorem tmod_range {a b : Int} (ha : 0 ≤ a) (hb : 0 < b) : 0 ≤ Int.tmod a b ∧ Int.tmod a b < b := by
  rw [Int.tmod_eq_emod_of_nonneg ha]
  exact ⟨Int.emod_nonneg a (by omega), Int.emod_lt_of_pos a hb⟩
theorem pick_ok {s : List Int} (hs : Bytes s) (p n : Int) (hp : 0 ≤ p) (hp2 : p ≤ 1000000) (hn2 : n ≤ 1000000) :
    ∃ r, (∀ k, 1 ≤ k → spec_l20Rd_pick.f k s p n = some (r, p + 1)) ∧ 0 ≤ r ∧ (1 ≤ n → r < n) ∧ (n < 1 → r = 0) := by
  have e1 : wrap64 (p + 1) = p + 1 := w64 (by omega)
  have e2 : wrap64 (p + 1 - 1) = p := by rw [w64 (by omega)]; omega
  by_cases hn : n < 1
  · refine ⟨0, fun k hk => ?_, Int.le_refl _, fun h => by omega, fun _ => rfl⟩
    obtain ⟨k, rfl⟩ : ∃ m, k = m + 1 := ⟨k - 1, by omega⟩
    unfold spec_l20Rd_pick.f
    rw [if_pos hn, e1]
    simp only [spec_l20Rd_pick.j0]
    rw [if_pos (by decide)]
  by_cases hl : (s.length : Int) = 0
  · refine ⟨0, fun k hk => ?_, Int.le_refl _, fun h => by omega, fun _ => rfl⟩
    obtain ⟨k, rfl⟩ : ∃ m, k = m + 1 := ⟨k - 1, by omega⟩
    unfold spec_l20Rd_pick.f
    rw [if_neg hn, e1, beq_iff_eq.2 hl]
    simp only [spec_l20Rd_pick.j0]
    rw [if_pos (by decide)]
  have hl1 : ((s.length : Int) == 0) = false := by rw [beq_eq_false_iff_ne]; exact hl
  have hl2 : 0 < (s.length : Int) := by omega
  by_cases hlt : p < (s.length : Int)
  · have hr := rd_byte hs p
    have e3 : wrap64 (rd s p) = rd s p := w64 (by omega)
    have ht := tmod_range hr.1 (show (0 : Int) < n by omega)
    refine ⟨Int.tmod (rd s p) n, fun k hk => ?_, ht.1, fun _ => ht.2, fun h => by omega⟩
    obtain ⟨k, rfl⟩ : ∃ m, k = m + 1 := ⟨k - 1, by omega⟩
    unfold spec_l20Rd_pick.f
    rw [if_neg hn, e1, hl1]
    simp only [spec_l20Rd_pick.j0]
    rw [if_neg (by decide), e2, if_pos hlt, if_pos hp, if_neg (by omega), e3]
  · have hm1 := tmod_range hp hl2
    have e4 : wrap64 (wrap64 (p * 7) + 3) = p * 7 + 3 := by rw [w64 (n := p * 7) (by omega)]; exact w64 (by omega)
    have hm2 := tmod_range (show 0 ≤ p * 7 + 3 by omega) hl2
    have hd : 0 ≤ Int.tdiv p (s.length : Int) ∧ Int.tdiv p (s.length : Int) ≤ 1000000 := by
      rw [Int.tdiv_eq_ediv_of_nonneg hp]
      exact ⟨Int.ediv_nonneg hp (by omega), Int.le_trans (Int.ediv_le_self _ hp) hp2⟩
    have hb1 := rd_byte hs (Int.tmod p (s.length : Int))
    have hb2 := rd_byte hs (Int.tmod (p * 7 + 3) (s.length : Int))
    obtain ⟨b1, g1⟩ : ∃ b, rd s (Int.tmod p (s.length : Int)) = b := ⟨_, rfl⟩
    obtain ⟨b2, g2⟩ : ∃ b, rd s (Int.tmod (p * 7 + 3) (s.length : Int)) = b := ⟨_, rfl⟩
    obtain ⟨d, g3⟩ : ∃ d, Int.tdiv p (s.length : Int) = d := ⟨_, rfl⟩
    rw [g1] at hb1
    rw [g2] at hb2
    rw [g3] at hd
    have eX : wrap64 (wrap64 (wrap64 (wrap64 (wrap64 b1 * 131) + wrap64 (wrap64 b2 * 1117)) + wrap64 (p * 29)) + wrap64 (wrap64 d * 53)) = b1 * 131 + b2 * 1117 + p * 29 + d * 53 := by
      unfold wrap64
      omega
    have hX : 0 ≤ b1 * 131 + b2 * 1117 + p * 29 + d * 53 ∧ b1 * 131 + b2 * 1117 + p * 29 + d * 53 < 4294967296 := by omega
    obtain ⟨x, g4⟩ : ∃ x, b1 * 131 + b2 * 1117 + p * 29 + d * 53 = x := ⟨_, rfl⟩
    rw [g4] at eX hX
    have eY : wrap64 (Int.tdiv x 64) = x / 64 := by
      rw [Int.tdiv_eq_ediv_of_nonneg hX.1]
      exact w64 (by omega)
    have hxr := xor_range x (x / 64) hX.1 hX.2 (by omega) (by omega)
    have ht := tmod_range hxr.1 (show (0 : Int) < n by omega)
    refine ⟨Int.tmod (Go.bits .xor .i64 x (x / 64)) n, fun k hk => ?_, ht.1, fun _ => ht.2, fun h => by omega⟩
    obtain ⟨k, rfl⟩ : ∃ m, k = m + 1 := ⟨k - 1, by omega⟩
    unfold spec_l20Rd_pick.f
    rw [if_neg hn, e1, hl1]
    simp only [spec_l20Rd_pick.j0]
    rw [if_neg (by decide), e2, if_neg hlt, if_neg hl, if_pos hm1.1, if_pos hm1.2, e4, if_pos hm2.1, if_pos hm2.2, if_neg (by omega), g1, g2, g3, eX, eY]
theorem odd_ok {s : List Int} (hs : Bytes s) (p n : Int) (hp : 0 ≤ p) (hp2 : p ≤ 1000000) (hn2 : n ≤ 1000000) :
    ∃ b p', (∀ k, 1 ≤ k → spec_l20Rd_odd.f k s p n = some (b, p')) ∧ 0 ≤ p' ∧ p' ≤ p + 1 ∧ (n ≤ 0 → b = false) := by
  by_cases hn : n > 0
  · obtain ⟨r, hr, _⟩ := pick_ok hs p n hp hp2 hn2
    refine ⟨r == wrap64 (n - 1), p + 1, fun k hk => ?_, by omega, Int.le_refl _, fun h => by omega⟩
    unfold spec_l20Rd_odd.f
    rw [if_pos hn, hr k hk]
    rfl
  · refine ⟨false, p, fun k hk => ?_, hp, by omega, fun _ => rfl⟩
    unfold spec_l20Rd_odd.f
    rw [if_neg hn]
theorem bytes_take {l : List Int} (h : ∀ x ∈ l, (Lit.int .u8 x).wf = true) (n : Nat) (hn : n ≤ 2000) : Bytes (l.take n) := by
  refine ⟨by rw [List.length_take]; omega, fun x hx => ?_⟩
  have := h x (List.mem_of_mem_take hx)
  simp [Lit.wf, IntKind.min, IntKind.max, IntKind.signed, IntKind.bits] at this
  omega
theorem bytes_of {l : List Int} (h : ∀ x ∈ l, (Lit.int .u8 x).wf = true) (hn : l.length ≤ 2000) : Bytes l := by
  have := bytes_take h 2000 (Nat.le_refl _)
  rwa [List.take_of_length_le hn] at this

end Go.Proofs.Ytokphjnpkaipcaa.Pure
set_option linter.unusedVariables false
set_option linter.unusedSimpArgs false
namespace Go.Proofs.Ytokphjnpkaipcaa.Pure
open Go.RowKit Go.Proofs.Ytokphjnpkaipcaa.X Go.Proofs.YtokphjnpkaipcaaV.PrintWords Go.Proofs.YtokphjnpkaipcaaV.PrintLast Go.Proofs.YtokphjnpkaipcaaV.PrintMore

theorem open_ok {l : List Int} (h : ∀ x ∈ l, (Lit.int .u8 x).wf = true) : ∃ s, spec_l20Open.f l = some (s, 0) ∧ Bytes s := by
  unfold spec_l20Open.f
  by_cases hl : (l.length : Int) > 2000
  · rw [if_pos hl, if_pos (by omega)]
    exact ⟨_, rfl, bytes_take h 2000 (Nat.le_refl _)⟩
  · rw [if_neg hl]
    exact ⟨_, rfl, bytes_of h (by omega)⟩

end Go.Proofs.Ytokphjnpkaipcaa.Pure
set_option linter.unusedVariables false
set_option linter.unusedSimpArgs false
namespace Go.Proofs.Ytokphjnpkaipcaa.Pure
open Go.RowKit Go.Proofs.Ytokphjnpkaipcaa.X Go.Proofs.YtokphjnpkaipcaaV.PrintWords Go.Proofs.YtokphjnpkaipcaaV.PrintLast Go.Proofs.YtokphjnpkaipcaaV.PrintMore

theorem size_app (a b : ByteArray) : (a ++ b).size = a.size + b.size := ByteArray.size_append
theorem strOf_one (x : Int) : (strOfNums [x]).size = 1 := rfl
def Some4 (g : Nat → Option (Int × Int × ByteArray × Int)) (K : Nat) (p b : Int) : Prop :=
  ∃ t n s p', (∀ k, K ≤ k → g k = some (t, n, s, p')) ∧ p ≤ p' ∧ p' ≤ b ∧ s.size ≤ 40
theorem draw3 {l : List Int} (hs : Bytes l) (n0 p t n : Int) (s : ByteArray) (hn0 : n0 ≤ 1000) (hp : 0 ≤ p) (hp2 : p ≤ 100000) (hz : s.size ≤ 20) :
    Some4 (fun k => spec_l20Value.j3 k n0 l p t n s) 2 p (p + 3) := by
  obtain ⟨b, p1, hb, h0, h1, _⟩ := odd_ok hs p n0 hp (by omega) (by omega)
  have hp1 : p ≤ p1 := by
    have := hb 1 (by decide)
    unfold spec_l20Rd_odd.f at this
    by_cases hn : n0 > 0
    · rw [if_pos hn] at this
      obtain ⟨r, hr, _⟩ := pick_ok hs p n0 hp (by omega) (by omega)
      rw [hr 1 (by decide)] at this
      simp only [Option.bind_some, Option.some.injEq, Prod.mk.injEq] at this
      omega
    · rw [if_neg hn] at this
      simp only [Option.some.injEq, Prod.mk.injEq] at this
      omega
  cases b with
  | false =>
    refine ⟨t, n, s, p1, fun k hk => ?_, hp1, by omega, by omega⟩
    obtain ⟨k, rfl⟩ : ∃ m, k = m + 1 := ⟨k - 1, by omega⟩
    simp only [spec_l20Value.j3]
    rw [hb k (by omega)]
    rfl
  | true =>
    obtain ⟨r, hr, r0, r1, _⟩ := pick_ok hs p1 4 h0 (by omega) (by decide)
    have r1 := r1 (by decide)
    obtain ⟨r2, hr2, _⟩ := pick_ok hs (p1 + 1) 7 (by omega) (by omega) (by decide)
    have e7 : (⟨#[97, 98, 99, 100, 101, 102, 103]⟩ : ByteArray).size = 7 := rfl
    have e1 : (⟨#[65]⟩ : ByteArray).size = 1 := rfl
    have hu : ∀ k, 1 ≤ k → spec_l20Value.j3 (k + 1) n0 l p t n s = if r = 0 then some (t, 10000, s, p1 + 1) else if r = 1 then some (t, n, s ++ (⟨#[97, 98, 99, 100, 101, 102, 103]⟩ : ByteArray), p1 + 1) else if r = 2 then some (wrap64 (r2 - 1), n, s, p1 + 1 + 1) else some (t, n, s ++ (⟨#[65]⟩ : ByteArray), p1 + 1) := by
      intro k hk
      simp only [spec_l20Value.j3]
      rw [hb k hk]
      simp only [Option.bind_some, if_true]
      rw [hr k hk]
      simp only [Option.bind_some]
      rw [hr2 k hk, if_pos (show s.size + 7 ≤ 9223372036854775807 by omega), if_pos (show s.size + 1 ≤ 9223372036854775807 by omega)]
      simp only [Option.bind_some]
    have hg : ∀ q : Int × Int × ByteArray × Int, (∀ k, 1 ≤ k → spec_l20Value.j3 (k + 1) n0 l p t n s = some q) → p ≤ q.2.2.2 → q.2.2.2 ≤ p + 3 → q.2.2.1.size ≤ 40 → Some4 (fun k => spec_l20Value.j3 k n0 l p t n s) 2 p (p + 3) := by
      intro q hq ha hb hc
      refine ⟨q.1, q.2.1, q.2.2.1, q.2.2.2, fun k hk => ?_, ha, hb, hc⟩
      obtain ⟨k, rfl⟩ : ∃ m, k = m + 1 := ⟨k - 1, by omega⟩
      exact hq k (by omega)
    by_cases c0 : r = 0
    · exact hg (t, 10000, s, p1 + 1) (fun k hk => by rw [hu k hk, if_pos c0]) (by show p ≤ p1 + 1; omega) (by show p1 + 1 ≤ p + 3; omega) (by show s.size ≤ 40; omega)
    by_cases c1 : r = 1
    · exact hg (t, n, s ++ (⟨#[97, 98, 99, 100, 101, 102, 103]⟩ : ByteArray), p1 + 1) (fun k hk => by rw [hu k hk, if_neg c0, if_pos c1]) (by show p ≤ p1 + 1; omega) (by show p1 + 1 ≤ p + 3; omega) (by show (s ++ _).size ≤ 40; rw [size_app, e7]; omega)
    by_cases c2 : r = 2
    · exact hg (wrap64 (r2 - 1), n, s, p1 + 1 + 1) (fun k hk => by rw [hu k hk, if_neg c0, if_neg c1, if_pos c2]) (by show p ≤ p1 + 1 + 1; omega) (by show p1 + 1 + 1 ≤ p + 3; omega) (by show s.size ≤ 40; omega)
    · exact hg (t, n, s ++ (⟨#[65]⟩ : ByteArray), p1 + 1) (fun k hk => by rw [hu k hk, if_neg c0, if_neg c1, if_neg c2]) (by show p ≤ p1 + 1; omega) (by show p1 + 1 ≤ p + 3; omega) (by show (s ++ _).size ≤ 40; rw [size_app, e1]; omega)
theorem draw_text {l : List Int} (hs : Bytes l) (n0 t n : Int) (hn0 : n0 ≤ 1000) (d : Nat) : ∀ (p : Int) (s : ByteArray), 0 ≤ p → p + d ≤ 99000 → d ≤ 10 → s.size + d ≤ 20 →
    Some4 (fun k => spec_l20Value.l0 k n0 (d : Int) l p t n s) (d + 3) p (p + d + 3) := by
  induction d with
  | zero =>
    intro p s hp hp2 _ hz
    obtain ⟨t', n', s', p', hk', h1, h2, h3⟩ := draw3 hs n0 p t n s hn0 hp (by omega) (by omega)
    refine ⟨t', n', s', p', fun k hk => ?_, h1, by omega, h3⟩
    obtain ⟨k, rfl⟩ : ∃ m, k = m + 1 := ⟨k - 1, by omega⟩
    simp only [spec_l20Value.l0]
    rw [if_neg (by decide)]
    exact hk' k (by omega)
  | succ d ih =>
    intro p s hp hp2 hd hz
    obtain ⟨r, hr, _⟩ := pick_ok hs p 3 hp (by omega) (by decide)
    have hsz : (s ++ strOfNums [(wrap64 (97 + r)) % 256]).size = s.size + 1 := by rw [size_app, strOf_one]
    obtain ⟨t', n', s', p', hk', h1, h2, h3⟩ := ih (p + 1) (s ++ strOfNums [(wrap64 (97 + r)) % 256]) (by omega) (by omega) (by omega) (by omega)
    refine ⟨t', n', s', p', fun k hk => ?_, by omega, by omega, h3⟩
    obtain ⟨k, rfl⟩ : ∃ m, k = m + 1 := ⟨k - 1, by omega⟩
    simp only [spec_l20Value.l0]
    rw [if_pos (by omega), hr k (by omega)]
    simp only [Option.bind_some]
    rw [strOf_one, if_pos (by omega), show wrap64 (((d + 1 : Nat) : Int) - 1) = (d : Int) by rw [w64 (by omega)]; omega]
    exact hk' k (by omega)
theorem draw_ok {l : List Int} (hs : Bytes l) (p n0 : Int) (hp : 0 ≤ p) (hp2 : p ≤ 90000) (hn0 : n0 ≤ 1000) :
    Some4 (fun k => spec_l20Value.f k l p n0) 20 p (p + 20) := by
  obtain ⟨r, hr, r0, r1, _⟩ := pick_ok hs p 7 hp (by omega) (by decide)
  have r1 := r1 (by decide)
  have hu : ∀ k, 1 ≤ k → spec_l20Value.f k l p n0 = (if r = 0 then (spec_l20Value.j3 k n0 l (p + 1) 0 0 (⟨#[]⟩ : ByteArray)) else (if r = 1 then (spec_l20Value.j0 k n0 r (r == 1) l (p + 1)) else (if r = 2 then (spec_l20Value.j0 k n0 r (r == 2) l (p + 1)) else (spec_l20Value.j0 k n0 r (r == 3) l (p + 1))))) := by
    intro k hk
    unfold spec_l20Value.f
    rw [hr k hk]
    rfl
  have e0 : (⟨#[]⟩ : ByteArray).size = 0 := rfl
  -- a number
  have num : Some4 (fun k => spec_l20Value.j0 k n0 r true l (p + 1)) 10 (p + 1) (p + 20) := by
    obtain ⟨a, ha, a0, a1, _⟩ := pick_ok hs (p + 1) 7 (by omega) (by omega) (by decide)
    obtain ⟨b, hb, _⟩ := pick_ok hs (p + 1 + 1) 8 (by omega) (by omega) (by decide)
    obtain ⟨c, hc, c0, c1, _⟩ := pick_ok hs (p + 1 + 1 + 1) 5 (by omega) (by omega) (by decide)
    have c1 := c1 (by decide)
    by_cases hb0 : b = 0
    · obtain ⟨t', n', s', p', hk', h1, h2, h3⟩ := draw3 hs n0 (p + 1 + 1 + 1 + 1) 1 (rd [9999, -9999, 255, 256, -256] c) ⟨#[]⟩ hn0 (by omega) (by omega) (by rw [e0]; omega)
      refine ⟨t', n', s', p', fun k hk => ?_, by omega, by omega, h3⟩
      obtain ⟨k, rfl⟩ : ∃ m, k = m + 1 := ⟨k - 1, by omega⟩
      simp only [spec_l20Value.j0]
      rw [if_pos (by decide), ha k (by omega)]
      simp only [Option.bind_some]
      rw [hb k (by omega)]
      simp only [Option.bind_some]
      rw [if_pos hb0, hc k (by omega)]
      simp only [Option.bind_some]
      rw [if_pos c0, if_pos (show c < ((([9999, -9999, 255, 256, -256] : List Int).length : Nat) : Int) from c1)]
      exact hk' k (by omega)
    · obtain ⟨t', n', s', p', hk', h1, h2, h3⟩ := draw3 hs n0 (p + 1 + 1 + 1) 1 (wrap64 (a - 3)) ⟨#[]⟩ hn0 (by omega) (by omega) (by rw [e0]; omega)
      refine ⟨t', n', s', p', fun k hk => ?_, by omega, by omega, h3⟩
      obtain ⟨k, rfl⟩ : ∃ m, k = m + 1 := ⟨k - 1, by omega⟩
      simp only [spec_l20Value.j0]
      rw [if_pos (by decide), ha k (by omega)]
      simp only [Option.bind_some]
      rw [hb k (by omega)]
      simp only [Option.bind_some]
      rw [if_neg hb0]
      exact hk' k (by omega)
  -- a text
  have text : Some4 (fun k => spec_l20Value.j1 k n0 true l (p + 1)) 15 (p + 1) (p + 20) := by
    obtain ⟨a, ha, a0, a1, _⟩ := pick_ok hs (p + 1) 4 (by omega) (by omega) (by decide)
    have a1 := a1 (by decide)
    obtain ⟨d, rfl⟩ := Int.eq_ofNat_of_zero_le a0
    obtain ⟨t', n', s', p', hk', h1, h2, h3⟩ := draw_text hs n0 2 0 hn0 d (p + 1 + 1) ⟨#[]⟩ (by omega) (by omega) (by omega) (by rw [e0]; omega)
    refine ⟨t', n', s', p', fun k hk => ?_, by omega, by omega, h3⟩
    obtain ⟨k, rfl⟩ : ∃ m, k = m + 1 := ⟨k - 1, by omega⟩
    simp only [spec_l20Value.j1]
    rw [if_pos (by decide), ha k (by omega)]
    simp only [Option.bind_some]
    exact hk' k (by omega)
  -- a truth
  have truth : Some4 (fun k => spec_l20Value.j1 k n0 false l (p + 1)) 15 (p + 1) (p + 20) := by
    obtain ⟨a, ha, _⟩ := pick_ok hs (p + 1) 2 (by omega) (by omega) (by decide)
    obtain ⟨t', n', s', p', hk', h1, h2, h3⟩ := draw3 hs n0 (p + 1 + 1) 3 a ⟨#[]⟩ hn0 (by omega) (by omega) (by rw [e0]; omega)
    refine ⟨t', n', s', p', fun k hk => ?_, by omega, by omega, h3⟩
    obtain ⟨k, rfl⟩ : ∃ m, k = m + 1 := ⟨k - 1, by omega⟩
    simp only [spec_l20Value.j1]
    rw [if_neg (by decide), ha k (by omega)]
    simp only [Option.bind_some]
    exact hk' k (by omega)
  by_cases c0 : r = 0
  · obtain ⟨t', n', s', p', hk', h1, h2, h3⟩ := draw3 hs n0 (p + 1) 0 0 ⟨#[]⟩ hn0 (by omega) (by omega) (by rw [e0]; omega)
    refine ⟨t', n', s', p', fun k hk => ?_, by omega, by omega, h3⟩
    show spec_l20Value.f k l p n0 = _
    rw [hu k (by omega), if_pos c0]
    exact hk' k (by omega)
  by_cases c3 : r = 1 ∨ r = 2 ∨ r = 3
  · obtain ⟨t', n', s', p', hk', h1, h2, h3⟩ := num
    refine ⟨t', n', s', p', fun k hk => ?_, by omega, h2, h3⟩
    show spec_l20Value.f k l p n0 = _
    rw [hu k (by omega), if_neg c0]
    rcases c3 with rfl | rfl | rfl
    · exact hk' k (by omega)
    · exact hk' k (by omega)
    · exact hk' k (by omega)
  · have hj : ∀ k, 1 ≤ k → spec_l20Value.f (k + 1) l p n0 = spec_l20Value.j1 k n0 (r == 4 || r == 5) l (p + 1) := by
      intro k hk
      rw [hu (k + 1) (by omega), if_neg c0, if_neg (by omega), if_neg (by omega), beq_eq_false_iff_ne.2 (show r ≠ 3 by omega)]
      simp only [spec_l20Value.j0]
      rw [if_neg (by decide)]
      by_cases c4 : r = 4
      · rw [if_pos c4, c4]
        rfl
      · rw [if_neg c4, beq_eq_false_iff_ne.2 c4, Bool.false_or]
    by_cases c4 : r = 4 ∨ r = 5
    · obtain ⟨t', n', s', p', hk', h1, h2, h3⟩ := text
      refine ⟨t', n', s', p', fun k hk => ?_, by omega, h2, h3⟩
      obtain ⟨k, rfl⟩ : ∃ m, k = m + 1 := ⟨k - 1, by omega⟩
      show spec_l20Value.f (k + 1) l p n0 = _
      rw [hj k (by omega), show (r == 4 || r == 5) = true by rcases c4 with rfl | rfl <;> rfl]
      exact hk' k (by omega)
    · obtain ⟨t', n', s', p', hk', h1, h2, h3⟩ := truth
      refine ⟨t', n', s', p', fun k hk => ?_, by omega, h2, h3⟩
      obtain ⟨k, rfl⟩ : ∃ m, k = m + 1 := ⟨k - 1, by omega⟩
      show spec_l20Value.f (k + 1) l p n0 = _
      rw [hj k (by omega), show (r == 4 || r == 5) = false by rw [beq_eq_false_iff_ne.2 (show r ≠ 4 by omega), beq_eq_false_iff_ne.2 (show r ≠ 5 by omega)]; rfl]
      exact hk' k (by omega)

end Go.Proofs.Ytokphjnpkaipcaa.Pure
set_option linter.unusedVariables false
set_option linter.unusedSimpArgs false
namespace Go.Proofs.Ytokphjnpkaipcaa.Pure
open Go.RowKit Go.Proofs.Ytokphjnpkaipcaa.X Go.Proofs.YtokphjnpkaipcaaV.PrintWords Go.Proofs.YtokphjnpkaipcaaV.PrintLast Go.Proofs.YtokphjnpkaipcaaV.PrintMore

theorem l1In_eq (a lo hi : Int) : spec_l1In.f a lo hi = some (decide (lo ≤ a ∧ a ≤ hi)) := by
  unfold spec_l1In.f
  by_cases h : a ≥ lo
  · rw [if_pos h]
    by_cases g : a ≤ hi
    · rw [decide_eq_true g, decide_eq_true ⟨h, g⟩]
    · rw [decide_eq_false g, decide_eq_false (fun h' => g h'.2)]
  · rw [if_neg h, decide_eq_false (fun h' => h h'.1)]

end Go.Proofs.Ytokphjnpkaipcaa.Pure
set_option linter.unusedVariables false
set_option linter.unusedSimpArgs false
namespace Go.Proofs.Ytokphjnpkaipcaa.Pure
open Go.RowKit Go.Proofs.Ytokphjnpkaipcaa.X Go.Proofs.YtokphjnpkaipcaaV.PrintWords Go.Proofs.YtokphjnpkaipcaaV.PrintLast Go.Proofs.YtokphjnpkaipcaaV.PrintMore

theorem between_eq (a lo hi : Int) : impl_between.f a lo hi = some (decide (lo ≤ a ∧ a ≤ hi)) := by
  unfold impl_between.f
  by_cases h : a ≥ lo
  · rw [if_pos h]
    by_cases g : a ≤ hi
    · rw [decide_eq_true g, decide_eq_true ⟨h, g⟩]
    · rw [decide_eq_false g, decide_eq_false (fun h' => g h'.2)]
  · rw [if_neg h, decide_eq_false (fun h' => h h'.1)]

end Go.Proofs.Ytokphjnpkaipcaa.Pure
set_option linter.unusedVariables false
set_option linter.unusedSimpArgs false
namespace Go.Proofs.Ytokphjnpkaipcaa.Pure
open Go.RowKit Go.Proofs.Ytokphjnpkaipcaa.X Go.Proofs.YtokphjnpkaipcaaV.PrintWords Go.Proofs.YtokphjnpkaipcaaV.PrintLast Go.Proofs.YtokphjnpkaipcaaV.PrintMore

theorem toList_data (s : ByteArray) : s.toList = s.data.toList := ByteArray.toList_eq s
theorem data_size (s : ByteArray) : s.data.toList.length = s.size := by rw [Array.length_toList]; rfl
theorem nil_iff (s : ByteArray) : s.toList = ([] : List UInt8) ↔ s.size = 0 := by
  rw [toList_data, ← List.length_eq_zero_iff, data_size]
theorem nil_beq (s : ByteArray) : (s.toList == ([] : List UInt8)) = decide (s.size = 0) := by
  rw [Bool.eq_iff_iff, beq_iff_eq, nil_iff, decide_eq_true_iff]
/-- Small letters alone. -/
def Low (s : ByteArray) : Bool := s.data.toList.all fun c => decide (97 ≤ c.toNat ∧ c.toNat ≤ 122)
/-- A value: its kind, its number, its text. -/
def VOk (t n : Int) (s : ByteArray) : Bool :=
  decide (t = 0 ∧ n = 0 ∧ s.size = 0) || decide (t = 1 ∧ s.size = 0 ∧ -9999 ≤ n ∧ n ≤ 9999) || (decide (t = 2 ∧ n = 0 ∧ s.size ≤ 6) && Low s) || decide (t = 3 ∧ s.size = 0 ∧ 0 ≤ n ∧ n ≤ 1)
theorem letters_eq (s : ByteArray) (h : s.size ≤ 6) : impl_letters.f s = some (Low s) := by
  unfold impl_letters.f
  rw [if_pos (by omega)]
  rfl
theorem vok0 {t n : Int} {s : ByteArray} (ht : t = 0) : VOk t n s = decide (n = 0 ∧ s.size = 0) := by subst ht; simp [VOk]
theorem vok1 {t n : Int} {s : ByteArray} (ht : t = 1) : VOk t n s = decide (s.size = 0 ∧ -9999 ≤ n ∧ n ≤ 9999) := by subst ht; simp [VOk]
theorem vok2 {t n : Int} {s : ByteArray} (ht : t = 2) : VOk t n s = (decide (n = 0 ∧ s.size ≤ 6) && Low s) := by subst ht; simp [VOk]
theorem vok3 {t n : Int} {s : ByteArray} (ht : t = 3) : VOk t n s = decide (s.size = 0 ∧ 0 ≤ n ∧ n ≤ 1) := by subst ht; simp [VOk]
theorem vokx {t n : Int} {s : ByteArray} (h0 : ¬ t = 0) (h1 : ¬ t = 1) (h2 : ¬ t = 2) (h3 : ¬ t = 3) : VOk t n s = false := by simp [VOk, h0, h1, h2, h3]
theorem impl_ok (t n : Int) (s : ByteArray) : impl_Value_ok.f t n s = some (VOk t n s) := by
  unfold impl_Value_ok.f
  by_cases h0 : t = 0
  · rw [if_pos h0, vok0 h0, nil_beq]
    subst h0
    congr 1
    rw [Bool.eq_iff_iff]
    simp
  rw [if_neg h0]
  by_cases h1 : t = 1
  · rw [if_pos h1, vok1 h1]
    by_cases hs : s.size = 0
    · rw [if_pos ((nil_iff s).2 hs), between_eq]
      simp [hs]
    · rw [if_neg (fun h => hs ((nil_iff s).1 h))]
      simp [hs]
  rw [if_neg h1]
  by_cases h2 : t = 2
  · rw [if_pos h2, vok2 h2]
    by_cases hn : n = 0
    · rw [if_pos hn]
      by_cases hs : (s.size : Int) ≤ 6
      · rw [if_pos hs, letters_eq s (by omega)]
        have : s.size ≤ 6 := by omega
        simp [hn, this]
      · rw [if_neg hs]
        have : ¬ s.size ≤ 6 := by omega
        simp [this]
    · rw [if_neg hn]
      simp [hn]
  rw [if_neg h2]
  by_cases h3 : t = 3
  · rw [if_pos h3, vok3 h3]
    by_cases hs : s.size = 0
    · rw [if_pos ((nil_iff s).2 hs), between_eq]
      simp [hs]
    · rw [if_neg (fun h => hs ((nil_iff s).1 h))]
      simp [hs]
  · rw [if_neg h3, vokx h0 h1 h2 h3]
/-- What is known of a value. -/
theorem vok_cases {t n : Int} {s : ByteArray} (h : VOk t n s = true) :
    (t = 0 ∧ n = 0 ∧ s.size = 0) ∨ (t = 1 ∧ s.size = 0 ∧ -9999 ≤ n ∧ n ≤ 9999) ∨ (t = 2 ∧ n = 0 ∧ s.size ≤ 6 ∧ Low s = true) ∨ (t = 3 ∧ s.size = 0 ∧ 0 ≤ n ∧ n ≤ 1) := by
  simp only [VOk, Bool.or_eq_true, Bool.and_eq_true, decide_eq_true_eq] at h
  rcases h with ((h | h) | h) | h
  · exact .inl h
  · exact .inr (.inl h)
  · exact .inr (.inr (.inl ⟨h.1.1, h.1.2.1, h.1.2.2, h.2⟩))
  · exact .inr (.inr (.inr h))
theorem vok_size {t n : Int} {s : ByteArray} (h : VOk t n s = true) : s.size ≤ 6 := by
  rcases vok_cases h with h | h | h | h <;> omega
theorem vok_kind {t n : Int} {s : ByteArray} (h : VOk t n s = true) : 0 ≤ t ∧ t ≤ 3 := by
  rcases vok_cases h with h | h | h | h <;> omega
theorem vok_num {t n : Int} {s : ByteArray} (h : VOk t n s = true) : -9999 ≤ n ∧ n ≤ 9999 := by
  rcases vok_cases h with h | h | h | h <;> omega

end Go.Proofs.Ytokphjnpkaipcaa.Pure
set_option linter.unusedVariables false
set_option linter.unusedSimpArgs false
namespace Go.Proofs.Ytokphjnpkaipcaa.Pure
open Go.RowKit Go.Proofs.Ytokphjnpkaipcaa.X Go.Proofs.YtokphjnpkaipcaaV.PrintWords Go.Proofs.YtokphjnpkaipcaaV.PrintLast Go.Proofs.YtokphjnpkaipcaaV.PrintMore

theorem bt_nat (s : ByteArray) (i : Nat) (h : i < s.size) : bt s (i : Int) = ((s.data.toList.getD i 0).toNat : Int) := by
  have h1 : (i : Int).toNat < s.size := by omega
  rw [← bt_at s i h1]
  have h2 : i < s.data.toList.length := by rw [data_size]; exact h
  rw [List.getD_eq_getElem?_getD, List.getElem?_eq_getElem h2]
  rfl
theorem text_from (s : ByteArray) (hm : s.size ≤ 9223372036854775807) (d : Nat) : ∀ (k i : Nat), i + d = s.size → d < k →
    spec_l1Text.l0 k s (i : Int) = some (((s.data.toList.drop i).all fun c => decide (97 ≤ c.toNat ∧ c.toNat ≤ 122)) && decide (s.size ≤ 6)) := by
  induction d with
  | zero =>
    intro k i hi hk
    obtain ⟨k, rfl⟩ : ∃ m, k = m + 1 := ⟨k - 1, by omega⟩
    simp only [spec_l1Text.l0]
    rw [if_neg (by omega), List.drop_of_length_le (by rw [data_size]; omega)]
    congr 1
    rw [Bool.eq_iff_iff]
    simp
    omega
  | succ d ih =>
    intro k i hi hk
    obtain ⟨k, rfl⟩ : ∃ m, k = m + 1 := ⟨k - 1, by omega⟩
    have hl : i < s.data.toList.length := by rw [data_size]; omega
    simp only [spec_l1Text.l0]
    rw [if_pos (by omega), if_pos (by omega), bt_nat s i (by omega), List.drop_eq_getElem_cons hl, List.all_cons]
    have e : s.data.toList.getD i 0 = s.data.toList[i] := by rw [List.getD_eq_getElem?_getD, List.getElem?_eq_getElem hl]; rfl
    rw [e]
    generalize s.data.toList[i] = c
    by_cases h1 : (c.toNat : Int) < 97
    · rw [if_pos h1, decide_eq_false (by omega)]
      rfl
    · rw [if_neg h1]
      by_cases h2 : (c.toNat : Int) > 122
      · rw [if_pos h2, decide_eq_false (by omega)]
        rfl
      · rw [if_neg h2, decide_eq_true (by omega), Bool.true_and]
        have ew : wrap64 ((i : Int) + 1) = ((i + 1 : Nat) : Int) := by unfold wrap64; omega
        rw [ew]
        exact ih k (i + 1) (by omega) (by omega)
theorem text_eq (s : ByteArray) (hm : s.size ≤ maxLen) (k : Nat) (hk : s.size < k) : spec_l1Text.f k s = some (Low s && decide (s.size ≤ 6)) := by
  unfold spec_l1Text.f
  have := text_from s (by simpa [maxLen] using hm) s.size k 0 (by omega) hk
  rw [List.drop_zero] at this
  exact this
theorem spec_ok (t n : Int) (s : ByteArray) (hm : s.size ≤ maxLen) (k : Nat) (hk : s.size < k) : spec_ValueOk.f k t n s = some (VOk t n s) := by
  unfold spec_ValueOk.f
  by_cases h0 : t = 0
  · rw [if_pos h0, vok0 h0, nil_beq]
    by_cases hn : n = 0 <;> simp [hn]
  rw [if_neg h0]
  by_cases h1 : t = 1
  · rw [if_pos h1, vok1 h1, l1In_eq, nil_beq]
    by_cases hn : -9999 ≤ n ∧ n ≤ 9999 <;> simp [hn]
  rw [if_neg h1]
  by_cases h2 : t = 2
  · rw [if_pos h2, vok2 h2, text_eq s hm k hk]
    by_cases hn : n = 0 <;> simp [hn, Bool.and_comm]
  rw [if_neg h2]
  by_cases h3 : t = 3
  · rw [if_pos h3, vok3 h3, l1In_eq, nil_beq]
    by_cases hn : 0 ≤ n ∧ n ≤ 1 <;> simp [hn]
  · rw [if_neg h3, vokx h0 h1 h2 h3]

end Go.Proofs.Ytokphjnpkaipcaa.Pure
set_option linter.unusedVariables false
set_option linter.unusedSimpArgs false
namespace Go.Proofs.Ytokphjnpkaipcaa.Pure
open Go.RowKit Go.Proofs.Ytokphjnpkaipcaa.X Go.Proofs.YtokphjnpkaipcaaV.PrintWords Go.Proofs.YtokphjnpkaipcaaV.PrintLast Go.Proofs.YtokphjnpkaipcaaV.PrintMore

abbrev K8 := Int × Int × Int × Int × ByteArray × Int × Int × ByteArray
def KOf (t n : Int) (s : ByteArray) : K8 := if VOk t n s = true ∧ t ≠ 0 then (1, if t = 1 then n else 0, t, n, s, t, n, s) else (0, 0, 0, 0, ⟨#[]⟩, 0, 0, ⟨#[]⟩)
theorem impl_knownOf (t n : Int) (s : ByteArray) (k : Nat) (hk : 1 ≤ k) : impl_KnownOf.f k t n s = some (KOf t n s) := by
  obtain ⟨m, rfl⟩ : ∃ m, k = m + 1 := ⟨k - 1, by omega⟩
  unfold impl_KnownOf.f KOf
  rw [impl_ok]
  simp only [Option.bind_some, impl_KnownOf.j0]
  by_cases h1 : VOk t n s = true
  · rw [if_pos h1]
    by_cases h0 : t = 0
    · rw [beq_iff_eq.2 h0, if_pos (by decide), if_neg (fun h => h.2 h0)]
    · rw [beq_eq_false_iff_ne.2 h0, if_neg (by decide), if_pos (show VOk t n s = true ∧ t ≠ 0 from ⟨h1, h0⟩)]
      by_cases ht : t = 1
      · rw [if_pos ht, if_pos ht]
      · rw [if_neg ht, if_neg ht]
  · rw [if_neg h1, if_pos (by decide), if_neg (fun h => h1 h.1)]
theorem spec_knownOf (t n : Int) (s : ByteArray) (hs : s.size ≤ maxLen) (k : Nat) (hk : s.size < k) : spec_KnownOf.f k t n s = some (KOf t n s) := by
  obtain ⟨m, rfl⟩ : ∃ m, k = m + 1 := ⟨k - 1, by omega⟩
  unfold spec_KnownOf.f KOf
  rw [spec_ok t n s hs _ hk]
  simp only [Option.bind_some, spec_KnownOf.j0]
  by_cases h1 : VOk t n s = true
  · rw [if_pos h1]
    by_cases h0 : t = 0
    · rw [beq_iff_eq.2 h0, if_pos (by decide), if_neg (fun h => h.2 h0)]
    · rw [beq_eq_false_iff_ne.2 h0, if_neg (by decide), if_pos (show VOk t n s = true ∧ t ≠ 0 from ⟨h1, h0⟩)]
      by_cases ht : t = 1
      · rw [if_pos ht, if_pos ht]
      · rw [if_neg ht, if_neg ht]
  · rw [if_neg h1, if_pos (by decide), if_neg (fun h => h1 h.1)]

end Go.Proofs.Ytokphjnpkaipcaa.Pure
set_option linter.unusedVariables false
set_option linter.unusedSimpArgs false
namespace Go.Proofs.Ytokphjnpkaipcaa.Pure
open Go.RowKit Go.Proofs.Ytokphjnpkaipcaa.X Go.Proofs.YtokphjnpkaipcaaV.PrintWords Go.Proofs.YtokphjnpkaipcaaV.PrintLast Go.Proofs.YtokphjnpkaipcaaV.PrintMore

/-- The order of two numbers. -/
def ci (a b : Int) : Int := if a < b then -1 else if a > b then 1 else 0
/-- The order of two texts. -/
def cs (a b : ByteArray) : Int := if Op.bytesLess a.toList b.toList = true then -1 else if Op.bytesLess b.toList a.toList = true then 1 else 0
/-- The order of two values. -/
def VOrd (t n : Int) (s : ByteArray) (t2 n2 : Int) (s2 : ByteArray) : Int := if ci t t2 = 0 then (if ci n n2 = 0 then cs s s2 else ci n n2) else ci t t2
theorem ci_zero {a b : Int} : ci a b = 0 ↔ a = b := by
  unfold ci
  split
  · constructor <;> intro h <;> omega
  · split
    · constructor <;> intro h <;> omega
    · constructor <;> intro h <;> omega
theorem ci_self (a : Int) : ci a a = 0 := ci_zero.2 rfl
theorem ci_neg (a b : Int) : ci b a = - ci a b := by
  unfold ci
  split <;> split <;> (try split) <;> (try split) <;> omega
theorem ci_range (a b : Int) : ci a b = -1 ∨ ci a b = 0 ∨ ci a b = 1 := by
  unfold ci
  split
  · exact .inl rfl
  · split
    · exact .inr (.inr rfl)
    · exact .inr (.inl rfl)
theorem cs_range (a b : ByteArray) : cs a b = -1 ∨ cs a b = 0 ∨ cs a b = 1 := by
  unfold cs
  split
  · exact .inl rfl
  · split
    · exact .inr (.inr rfl)
    · exact .inr (.inl rfl)
theorem vord_range (t n : Int) (s : ByteArray) (t2 n2 : Int) (s2 : ByteArray) : VOrd t n s t2 n2 s2 = -1 ∨ VOrd t n s t2 n2 s2 = 0 ∨ VOrd t n s t2 n2 s2 = 1 := by
  unfold VOrd
  split
  · split
    · exact cs_range _ _
    · exact ci_range _ _
  · exact ci_range _ _
theorem compare_int (a b : Int) : cmp_Compare_int.f a b = some (ci a b) := by
  have h1 : ∀ x : Int, (x != x) = false := fun x => by simp
  unfold cmp_Compare_int.f cmp_isNaN_int.f
  simp only [Option.bind_some, h1, Bool.false_eq_true, if_false]
  unfold ci
  split
  · rfl
  · split <;> rfl
theorem compare_string (a b : ByteArray) : cmp_Compare_string.f a b = some (cs a b) := by
  have h1 : ∀ x : List UInt8, (x != x) = false := fun x => by simp
  unfold cmp_Compare_string.f cmp_isNaN_string.f
  simp only [Option.bind_some, h1, Bool.false_eq_true, if_false]
  unfold cs
  split
  · rfl
  · split <;> rfl
theorem or_three (x y z : Int) (k : Nat) (hk : 4 ≤ k) : cmp_Or_int.f k [x, y, z] = some (if x = 0 then (if y = 0 then z else y) else x) := by
  obtain ⟨k, rfl⟩ : ∃ m, k = m + 4 := ⟨k - 4, by omega⟩
  have e1 : wrap64 ((0 : Int) + 1) = 1 := by decide +kernel
  have e2 : wrap64 ((1 : Int) + 1) = 2 := by decide +kernel
  have e3 : wrap64 ((2 : Int) + 1) = 3 := by decide +kernel
  have r0 : rd [x, y, z] 0 = x := rfl
  have r1 : rd [x, y, z] 1 = y := rfl
  have r2 : rd [x, y, z] 2 = z := rfl
  have l3 : (([x, y, z] : List Int).length : Int) = 3 := rfl
  unfold cmp_Or_int.f
  rw [l3]
  simp only [cmp_Or_int.l0, l3, e1, e2, e3, r0, r1, r2]
  by_cases hx : x = 0
  · rw [if_pos hx]
    by_cases hy : y = 0
    · rw [if_pos hy]
      by_cases hz : z = 0 <;> simp [hx, hy, hz]
    · simp [hx, hy]
  · simp [hx]
theorem impl_order (t n : Int) (s : ByteArray) (t2 n2 : Int) (s2 : ByteArray) (k : Nat) (hk : 4 ≤ k) : impl_Value_order.f k t n s t2 n2 s2 = some (VOrd t n s t2 n2 s2) := by
  unfold impl_Value_order.f
  rw [compare_int, compare_int, compare_string]
  simp only [Option.bind_some]
  rw [or_three _ _ _ k hk]
  rfl

end Go.Proofs.Ytokphjnpkaipcaa.Pure
set_option linter.unusedVariables false
set_option linter.unusedSimpArgs false
namespace Go.Proofs.Ytokphjnpkaipcaa.Pure
open Go.RowKit Go.Proofs.Ytokphjnpkaipcaa.X Go.Proofs.YtokphjnpkaipcaaV.PrintWords Go.Proofs.YtokphjnpkaipcaaV.PrintLast Go.Proofs.YtokphjnpkaipcaaV.PrintMore

theorem l1Cmp_eq (a b : ByteArray) : spec_l1Cmp.f a b = some (cs a b) := by
  unfold spec_l1Cmp.f cs
  split
  · rfl
  · split <;> rfl
theorem less_eq (a b : Int) (h : a ≠ b) : ((spec_l1Less.f b a).bind fun x => some (wrap64 (wrap64 (2 * x) - 1))) = some (ci a b) := by
  unfold spec_l1Less.f ci
  by_cases h1 : b < a
  · rw [if_pos h1, if_neg (by omega), if_pos (by omega)]
    decide +kernel
  · rw [if_neg h1, if_pos (by omega)]
    decide +kernel
theorem spec_order (t n : Int) (s : ByteArray) (t2 n2 : Int) (s2 : ByteArray) (k : Nat) (hs : s.size ≤ maxLen) (hs2 : s2.size ≤ maxLen) (hk : s.size < k) (hk2 : s2.size < k) :
    spec_ValueOrder.f k t n s t2 n2 s2 = some (if VOk t n s = true ∧ VOk t2 n2 s2 = true then VOrd t n s t2 n2 s2 else 0) := by
  obtain ⟨m, rfl⟩ : ∃ m, k = m + 1 := ⟨k - 1, by omega⟩
  unfold spec_ValueOrder.f
  rw [spec_ok t n s hs _ hk]
  simp only [Option.bind_some]
  by_cases h1 : VOk t n s = true
  · rw [if_pos h1, spec_ok t2 n2 s2 hs2 _ hk2]
    simp only [Option.bind_some, spec_ValueOrder.j0]
    by_cases h2 : VOk t2 n2 s2 = true
    · rw [if_pos (show VOk t n s = true ∧ VOk t2 n2 s2 = true from ⟨h1, h2⟩), h2, if_neg (by decide)]
      unfold VOrd
      by_cases ht : t = t2
      · rw [if_pos ht, if_pos (ci_zero.2 ht)]
        by_cases hn : n = n2
        · rw [if_pos hn, if_pos (ci_zero.2 hn), l1Cmp_eq]
          rfl
        · rw [if_neg hn, if_neg (fun h => hn (ci_zero.1 h))]
          exact less_eq n n2 hn
      · rw [if_neg ht, if_neg (fun h => ht (ci_zero.1 h))]
        exact less_eq t t2 ht
    · rw [if_neg (show ¬ (VOk t n s = true ∧ VOk t2 n2 s2 = true) from fun h => h2 h.2)]
      rw [Bool.not_eq_true] at h2
      rw [h2, if_pos (by decide)]
  · rw [if_neg h1, if_neg (show ¬ (VOk t n s = true ∧ VOk t2 n2 s2 = true) from fun h => h1 h.1)]
    simp only [spec_ValueOrder.j0]
    rw [if_pos (by decide)]

end Go.Proofs.Ytokphjnpkaipcaa.Pure
set_option linter.unusedVariables false
set_option linter.unusedSimpArgs false
namespace Go.Proofs.Ytokphjnpkaipcaa.Pure
open Go.RowKit Go.Proofs.Ytokphjnpkaipcaa.X Go.Proofs.YtokphjnpkaipcaaV.PrintWords Go.Proofs.YtokphjnpkaipcaaV.PrintLast Go.Proofs.YtokphjnpkaipcaaV.PrintMore

theorem cs_self (a : ByteArray) : cs a a = 0 := by
  have h : Op.bytesLess a.toList a.toList = false := by
    have := long_greater a.toList a.toList
    rw [← this]
    simp
  unfold cs
  rw [h]
  rfl
theorem cs_neg (a b : ByteArray) : cs b a = - cs a b := by
  unfold cs
  have h1 := long_greater a.toList b.toList
  by_cases ha : Op.bytesLess a.toList b.toList = true
  · rw [if_pos ha]
    rw [ha] at h1
    have hb : ¬ Op.bytesLess b.toList a.toList = true := by rw [← h1]; simp
    rw [if_neg hb, if_pos ha]
    rfl
  · rw [if_neg ha]
    by_cases hb : Op.bytesLess b.toList a.toList = true
    · rw [if_pos hb, if_pos hb, if_neg ha]
    · rw [if_neg hb, if_neg hb, if_neg ha]
      rfl
theorem cs_zero {a b : ByteArray} (h : cs a b = 0) : a.toList = b.toList := by
  unfold cs at h
  by_cases ha : Op.bytesLess a.toList b.toList = true
  · rw [if_pos ha] at h
    cases h
  · rw [if_neg ha] at h
    by_cases hb : Op.bytesLess b.toList a.toList = true
    · rw [if_pos hb] at h
      cases h
    · have h1 := long_greater a.toList b.toList
      rw [Bool.not_eq_true] at ha hb
      rw [ha, hb] at h1
      simpa using h1
theorem vord_neg (t n : Int) (s : ByteArray) (t2 n2 : Int) (s2 : ByteArray) : VOrd t2 n2 s2 t n s = - VOrd t n s t2 n2 s2 := by
  unfold VOrd
  rw [ci_neg t t2, ci_neg n n2, cs_neg s s2]
  by_cases h : ci t t2 = 0
  · rw [if_pos h, if_pos (by omega)]
    by_cases h' : ci n n2 = 0
    · rw [if_pos h', if_pos (by omega)]
    · rw [if_neg h', if_neg (by omega)]
  · rw [if_neg h, if_neg (by omega)]
theorem vord_zero {t n : Int} {s : ByteArray} {t2 n2 : Int} {s2 : ByteArray} : VOrd t n s t2 n2 s2 = 0 ↔ t = t2 ∧ n = n2 ∧ s.toList = s2.toList := by
  constructor
  · unfold VOrd
    intro h
    by_cases h1 : ci t t2 = 0
    · rw [if_pos h1] at h
      by_cases h2 : ci n n2 = 0
      · rw [if_pos h2] at h
        exact ⟨ci_zero.1 h1, ci_zero.1 h2, cs_zero h⟩
      · rw [if_neg h2] at h
        exact absurd h h2
    · rw [if_neg h1] at h
      exact absurd h h1
  · rintro ⟨rfl, rfl, h⟩
    unfold VOrd
    rw [ci_self, ci_self, if_pos rfl, if_pos rfl]
    unfold cs
    rw [h]
    exact cs_self s2

end Go.Proofs.Ytokphjnpkaipcaa.Pure
set_option linter.unusedVariables false
set_option linter.unusedSimpArgs false
namespace Go.Proofs.Ytokphjnpkaipcaa.Pure
open Go.RowKit Go.Proofs.Ytokphjnpkaipcaa.X Go.Proofs.YtokphjnpkaipcaaV.PrintWords Go.Proofs.YtokphjnpkaipcaaV.PrintLast Go.Proofs.YtokphjnpkaipcaaV.PrintMore

def KZero (c a t n : Int) (s : ByteArray) (t2 n2 : Int) (s2 : ByteArray) : Bool := c == 0 && (a == 0 && ((t == 0 && (n == 0 && (s.toList == ([] : List UInt8)))) && ((t2 == 0 && (n2 == 0 && (s2.toList == ([] : List UInt8)))))))
def KAll (c a t n : Int) (s : ByteArray) (t2 n2 : Int) (s2 : ByteArray) : Prop := (1 ≤ c ∧ c ≤ 100) ∧ (wrap64 ((-9999) * c) ≤ a ∧ a ≤ wrap64 (9999 * c)) ∧ VOk t n s = true ∧ VOk t2 n2 s2 = true ∧ t = t2 ∧ t ≠ 0 ∧ VOrd t n s t2 n2 s2 ≤ 0 ∧ (t = 1 ∨ a = 0)
instance (c a t n : Int) (s : ByteArray) (t2 n2 : Int) (s2 : ByteArray) : Decidable (KAll c a t n s t2 n2 s2) := by unfold KAll; infer_instance
def KOk (c a t n : Int) (s : ByteArray) (t2 n2 : Int) (s2 : ByteArray) : Bool := if c = 0 then KZero c a t n s t2 n2 s2 else decide (KAll c a t n s t2 n2 s2)
theorem impl_known (c a t n : Int) (s : ByteArray) (t2 n2 : Int) (s2 : ByteArray) (k : Nat) (hk : 4 ≤ k) : impl_KnownOk.f k c a t n s t2 n2 s2 = some (KOk c a t n s t2 n2 s2) := by
  unfold impl_KnownOk.f KOk
  by_cases h0 : c = 0
  · rw [if_pos h0, if_pos h0]
    rfl
  rw [if_neg h0, if_neg h0, between_eq, Option.bind_some]
  by_cases h1 : 1 ≤ c ∧ c ≤ 100
  · rw [if_pos (decide_eq_true h1), between_eq, Option.bind_some]
    by_cases h2 : wrap64 ((-9999) * c) ≤ a ∧ a ≤ wrap64 (9999 * c)
    · rw [if_pos (decide_eq_true h2), impl_ok, Option.bind_some]
      by_cases h3 : VOk t n s = true
      · rw [if_pos h3, impl_ok, Option.bind_some]
        by_cases h4 : VOk t2 n2 s2 = true
        · rw [if_pos h4]
          by_cases h5 : t = t2
          · rw [if_pos h5]
            by_cases h6 : t = 0
            · rw [if_pos h6, decide_eq_false (fun h => h.2.2.2.2.2.1 h6)]
            · rw [if_neg h6, impl_order _ _ _ _ _ _ _ hk, Option.bind_some]
              by_cases h7 : VOrd t n s t2 n2 s2 ≤ 0
              · rw [if_pos h7]
                by_cases h8 : t = 1
                · rw [if_pos h8, decide_eq_true ⟨h1, h2, h3, h4, h5, h6, h7, Or.inl h8⟩]
                · rw [if_neg h8]
                  congr 1
                  rw [Bool.eq_iff_iff, beq_iff_eq, decide_eq_true_iff]
                  exact ⟨fun e => ⟨h1, h2, h3, h4, h5, h6, h7, Or.inr e⟩, fun e => e.2.2.2.2.2.2.2.resolve_left h8⟩
              · rw [if_neg h7, decide_eq_false (fun h => h7 h.2.2.2.2.2.2.1)]
          · rw [if_neg h5, decide_eq_false (fun h => h5 h.2.2.2.2.1)]
        · rw [if_neg h4, decide_eq_false (fun h => h4 h.2.2.2.1)]
      · rw [if_neg h3, decide_eq_false (fun h => h3 h.2.2.1)]
    · rw [if_neg (fun h => h2 (of_decide_eq_true h)), decide_eq_false (fun h => h2 h.2.1)]
  · rw [if_neg (fun h => h1 (of_decide_eq_true h)), decide_eq_false (fun h => h1 h.1)]
theorem spec_known (c a t n : Int) (s : ByteArray) (t2 n2 : Int) (s2 : ByteArray) (hs : s.size ≤ maxLen) (hs2 : s2.size ≤ maxLen) (k : Nat) (hk : s.size + s2.size + 5 ≤ k) :
    spec_KnownOk.f k c a t n s t2 n2 s2 = some (KOk c a t n s t2 n2 s2) := by
  obtain ⟨k, rfl⟩ : ∃ m, k = m + 1 := ⟨k - 1, by omega⟩
  have jt : spec_KnownOk.j0 (k + 1) true c a t n s t2 n2 s2 = some false := by rw [spec_KnownOk.j0, if_pos rfl]
  unfold spec_KnownOk.f KOk
  by_cases h0 : c = 0
  · rw [if_pos h0, if_pos h0]
    rfl
  rw [if_neg h0, if_neg h0, l1In_eq, Option.bind_some]
  by_cases h1 : 1 ≤ c ∧ c ≤ 100
  · rw [if_pos (decide_eq_true h1), spec_ok t n s hs _ (by omega), Option.bind_some]
    by_cases h3 : VOk t n s = true
    · rw [if_pos h3, spec_ok t2 n2 s2 hs2 _ (by omega), Option.bind_some]
      by_cases h4 : VOk t2 n2 s2 = true
      · rw [if_pos h4]
        by_cases h5 : t = t2
        · rw [if_pos h5]
          by_cases h6 : t = 0
          · rw [beq_iff_eq.2 h6, jt, decide_eq_false (fun h => h.2.2.2.2.2.1 h6)]
          · rw [beq_eq_false_iff_ne.2 h6, spec_KnownOk.j0, if_neg (by decide), spec_order _ _ _ _ _ _ _ hs hs2 (by omega) (by omega), if_pos ⟨h3, h4⟩, Option.bind_some]
            by_cases h7 : VOrd t n s t2 n2 s2 ≤ 0
            · rw [if_pos h7, l1In_eq, Option.bind_some]
              by_cases h2 : wrap64 ((-9999) * c) ≤ a ∧ a ≤ wrap64 (9999 * c)
              · rw [if_pos (decide_eq_true h2)]
                by_cases h8 : t = 1
                · rw [if_pos h8, decide_eq_true ⟨h1, h2, h3, h4, h5, h6, h7, Or.inl h8⟩]
                · rw [if_neg h8]
                  congr 1
                  rw [Bool.eq_iff_iff, beq_iff_eq, decide_eq_true_iff]
                  exact ⟨fun e => ⟨h1, h2, h3, h4, h5, h6, h7, Or.inr e⟩, fun e => e.2.2.2.2.2.2.2.resolve_left h8⟩
              · rw [if_neg (fun h => h2 (of_decide_eq_true h)), decide_eq_false (fun h => h2 h.2.1)]
            · rw [if_neg h7, decide_eq_false (fun h => h7 h.2.2.2.2.2.2.1)]
        · rw [if_neg h5, jt, decide_eq_false (fun h => h5 h.2.2.2.2.1)]
      · rw [if_neg h4, jt, decide_eq_false (fun h => h4 h.2.2.2.1)]
    · rw [if_neg h3, jt, decide_eq_false (fun h => h3 h.2.2.1)]
  · rw [if_neg (fun h => h1 (of_decide_eq_true h)), jt, decide_eq_false (fun h => h1 h.1)]
theorem kok_open {c a t n : Int} {s : ByteArray} {t2 n2 : Int} {s2 : ByteArray} (h : KOk c a t n s t2 n2 s2 = true) (h0 : ¬ c = 0) : KAll c a t n s t2 n2 s2 := by
  unfold KOk at h
  rw [if_neg h0] at h
  exact of_decide_eq_true h

end Go.Proofs.Ytokphjnpkaipcaa.Pure
set_option linter.unusedVariables false
set_option linter.unusedSimpArgs false
namespace Go.Proofs.Ytokphjnpkaipcaa.Pure
open Go.RowKit Go.Proofs.Ytokphjnpkaipcaa.X Go.Proofs.YtokphjnpkaipcaaV.PrintWords Go.Proofs.YtokphjnpkaipcaaV.PrintLast Go.Proofs.YtokphjnpkaipcaaV.PrintMore

theorem impl_valueOk (t n : Int) (s : ByteArray) : impl_ValueOk.f t n s = some (VOk t n s) := by
  unfold impl_ValueOk.f
  rw [impl_ok]
  rfl

end Go.Proofs.Ytokphjnpkaipcaa.Pure
set_option linter.unusedVariables false
set_option linter.unusedSimpArgs false
namespace Go.Proofs.Ytokphjnpkaipcaa.Pure
open Go.RowKit Go.Proofs.Ytokphjnpkaipcaa.X Go.Proofs.YtokphjnpkaipcaaV.PrintWords Go.Proofs.YtokphjnpkaipcaaV.PrintLast Go.Proofs.YtokphjnpkaipcaaV.PrintMore

theorem alive_eq : laws_alive.f = some true := by decide +kernel

end Go.Proofs.Ytokphjnpkaipcaa.Pure
set_option linter.unusedVariables false
set_option linter.unusedSimpArgs false
namespace Go.Proofs.Ytokphjnpkaipcaa.Pure
open Go.RowKit Go.Proofs.Ytokphjnpkaipcaa.X Go.Proofs.YtokphjnpkaipcaaV.PrintWords Go.Proofs.YtokphjnpkaipcaaV.PrintLast Go.Proofs.YtokphjnpkaipcaaV.PrintMore

theorem num_one : impl_numOf.f 1 = some (1, 1, ⟨#[]⟩) := by
  unfold impl_numOf.f
  rw [impl_ok, Option.bind_some, vok1 rfl, if_pos (decide_eq_true ⟨rfl, by decide, by decide⟩)]
theorem vord_self (t n : Int) (s : ByteArray) : VOrd t n s t n s = 0 := vord_zero.2 ⟨rfl, rfl, rfl⟩
theorem known_one {t n : Int} {s : ByteArray} (h : VOk t n s = true) (h0 : t ≠ 0) : KOk 1 (if t = 1 then n else 0) t n s t n s = true := by
  unfold KOk
  rw [if_neg (by decide)]
  refine decide_eq_true ⟨by omega, ?_, h, h, rfl, h0, by rw [vord_self]; omega, ?_⟩
  · rw [w64 (n := (-9999) * 1) (by omega), w64 (n := 9999 * 1) (by omega)]
    by_cases h1 : t = 1
    · rw [if_pos h1]
      rw [vok1 h1] at h
      have := of_decide_eq_true h
      omega
    · rw [if_neg h1]
      omega
  · by_cases h1 : t = 1
    · exact Or.inl h1
    · exact Or.inr (if_neg h1)
theorem FnKnownOf : laws_FnKnownOf.Pure := by
  intro l hl
  obtain ⟨b, hs, hby⟩ := open_ok hl.2
  obtain ⟨t, n, s, p', hd, _, _, hz⟩ := draw_ok hby 0 6 (by decide) (by decide) (by decide)
  obtain ⟨K, hK⟩ : ∃ K : Nat, 1000 ≤ K := ⟨1000, Nat.le_refl _⟩
  refine ⟨K, ?_⟩
  unfold laws_FnKnownOf.f
  by_cases h : (l.length : Int) > 1048576
  · rw [if_pos h]
  rw [if_neg h, spec_DrawKnownOf.f, hs, Option.bind_some]
  have hd' : spec_l20Value.f K b 0 6 = some (t, n, s, p') := hd K (by omega)
  show ((((spec_l20Value.f K b 0 6).bind _).bind _) : Option Bool) = _
  rw [hd', Option.bind_some, Option.bind_some]
  show ((((impl_KnownOf.f K t n s).bind _)) : Option Bool) = _
  rw [impl_knownOf t n s K (by omega), Option.bind_some]
  show ((((spec_KnownOf.f K t n s).bind _)) : Option Bool) = _
  rw [spec_knownOf t n s (Nat.le_trans hz (by decide)) K (by omega), Option.bind_some, if_neg (by simp), impl_valueOk, Option.bind_some]
  obtain ⟨K, rfl⟩ : ∃ m, K = m + 1 := ⟨K - 1, by omega⟩
  by_cases h1 : VOk t n s = true ∧ t ≠ 0
  · rw [if_pos h1.1]
    unfold KOf
    rw [if_pos h1]
    show laws_FnKnownOf.j0 (K + 1) (t == 0) t n s 1 (if t = 1 then n else 0) t n s t n s = some true
    have ok := known_one h1.1 h1.2
    have tell : ∀ o, impl_KnownTell.f K 1 (if t = 1 then n else 0) t n s t n s o = (if o = 1 then ((impl_numOf.f 1).bind fun bt241 => (some (bt241.1, bt241.2.1, bt241.2.2))) else (if o = 2 then (if t = 1 then ((impl_numOf.f (if t = 1 then n else 0)).bind fun bt244 => (some (bt244.1, bt244.2.1, bt244.2.2))) else (some (0, 0, (⟨#[]⟩ : ByteArray)))) else (if o = 3 then (some (t, n, s)) else (if o = 4 then (some (t, n, s)) else (some (0, 0, (⟨#[]⟩ : ByteArray))))))) := by
      intro o
      unfold impl_KnownTell.f
      rw [impl_known _ _ _ _ _ _ _ _ _ (by omega), Option.bind_some, if_pos ok]
    rw [beq_eq_false_iff_ne.2 h1.2, laws_FnKnownOf.j0, if_neg Bool.false_ne_true, impl_known _ _ _ _ _ _ _ _ _ (by omega), Option.bind_some, if_pos ok]
    rw [tell 3, if_neg (by decide), if_neg (by decide), if_pos rfl, Option.bind_some, if_pos (by simp)]
    rw [tell 4, if_neg (by decide), if_neg (by decide), if_neg (by decide), if_pos rfl, Option.bind_some, if_pos (by simp)]
    rw [tell 1, if_pos rfl, num_one, Option.bind_some, Option.bind_some]
    rfl
  · have hk : KOf t n s = (0, 0, 0, 0, ⟨#[]⟩, 0, 0, ⟨#[]⟩) := by
      unfold KOf
      rw [if_neg h1]
    rw [hk]
    have jt : laws_FnKnownOf.j0 (K + 1) true t n s 0 0 0 0 ⟨#[]⟩ 0 0 ⟨#[]⟩ = some true := by
      rw [laws_FnKnownOf.j0, if_pos rfl, if_pos (by rw [nil_beq]; decide), alive_eq]
      rfl
    by_cases h2 : VOk t n s = true
    · have h3 : t = 0 := Classical.byContradiction fun g => h1 ⟨h2, g⟩
      rw [if_pos h2, h3]
      rw [h3] at jt
      exact jt
    · rw [if_neg h2]
      exact jt

end Go.Proofs.Ytokphjnpkaipcaa.Pure
