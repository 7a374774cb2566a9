/- A value is drawn at every list of at most 2000 bytes, with a text of at most 40 letters; a lemma. -/
import Derived.Test.YtdgikheibcmcjaaX23
import Derived.Test.YtdgikheibcmcjaaLPick
import Derived.Test.YtdgikheibcmcjaaVMore
set_option linter.unusedVariables false
set_option linter.unusedSimpArgs false
namespace Go.Proofs.Ytdgikheibcmcjaa.Pure
open Go.RowKit Go.Proofs.Ytdgikheibcmcjaa.X Go.Proofs.YtdgikheibcmcjaaV.PrintWords Go.Proofs.YtdgikheibcmcjaaV.PrintLast Go.Proofs.YtdgikheibcmcjaaV.PrintMore

theorem size_app (a b : ByteArray) : (a ++ b).size = a.size + b.size := ByteArray.size_append
theorem strOf_one (x : Int) : (strOfNums [x]).size = 1 := rfl
def Some4 (g : Nat → Option (Int × Int × ByteArray × Int)) (K : Nat) (p b : Int) : Prop :=
  ∃ t n s p', (∀ k, K ≤ k → g k = some (t, n, s, p')) ∧ p ≤ p' ∧ p' ≤ b ∧ s.size ≤ 40
theorem draw3 {l : List Int} (hs : Bytes l) (n0 p t n : Int) (s : ByteArray) (hn0 : n0 ≤ 1000) (hp : 0 ≤ p) (hp2 : p ≤ 100000) (hz : s.size ≤ 20) :
    Some4 (fun k => spec_l20Value.j3 k n0 l p t n s) 2 p (p + 3) := by
  obtain ⟨b, p1, hb, h0, h1, _⟩ := odd_ok hs p n0 hp (by omega) (by omega)
  have hp1 : p ≤ p1 := by
    have := hb 1 (by decide)
    unfold spec_l20Rd_odd.f at this
    by_cases hn : n0 > 0
    · rw [if_pos hn] at this
      obtain ⟨r, hr, _⟩ := pick_ok hs p n0 hp (by omega) (by omega)
      rw [hr 1 (by decide)] at this
      simp only [Option.bind_some, Option.some.injEq, Prod.mk.injEq] at this
      omega
    · rw [if_neg hn] at this
      simp only [Option.some.injEq, Prod.mk.injEq] at this
      omega
  cases b with
  | false =>
    refine ⟨t, n, s, p1, fun k hk => ?_, hp1, by omega, by omega⟩
    obtain ⟨k, rfl⟩ : ∃ m, k = m + 1 := ⟨k - 1, by omega⟩
    simp only [spec_l20Value.j3]
    rw [hb k (by omega)]
    rfl
  | true =>
    obtain ⟨r, hr, r0, r1, _⟩ := pick_ok hs p1 4 h0 (by omega) (by decide)
    have r1 := r1 (by decide)
    obtain ⟨r2, hr2, _⟩ := pick_ok hs (p1 + 1) 7 (by omega) (by omega) (by decide)
    have e7 : (⟨#[97, 98, 99, 100, 101, 102, 103]⟩ : ByteArray).size = 7 := rfl
    have e1 : (⟨#[65]⟩ : ByteArray).size = 1 := rfl
    have hu : ∀ k, 1 ≤ k → spec_l20Value.j3 (k + 1) n0 l p t n s = if r = 0 then some (t, 10000, s, p1 + 1) else if r = 1 then some (t, n, s ++ (⟨#[97, 98, 99, 100, 101, 102, 103]⟩ : ByteArray), p1 + 1) else if r = 2 then some (wrap64 (r2 - 1), n, s, p1 + 1 + 1) else some (t, n, s ++ (⟨#[65]⟩ : ByteArray), p1 + 1) := by
      intro k hk
      simp only [spec_l20Value.j3]
      rw [hb k hk]
      simp only [Option.bind_some, if_true]
      rw [hr k hk]
      simp only [Option.bind_some]
      rw [hr2 k hk, if_pos (show s.size + 7 ≤ 9223372036854775807 by omega), if_pos (show s.size + 1 ≤ 9223372036854775807 by omega)]
      simp only [Option.bind_some]
    have hg : ∀ q : Int × Int × ByteArray × Int, (∀ k, 1 ≤ k → spec_l20Value.j3 (k + 1) n0 l p t n s = some q) → p ≤ q.2.2.2 → q.2.2.2 ≤ p + 3 → q.2.2.1.size ≤ 40 → Some4 (fun k => spec_l20Value.j3 k n0 l p t n s) 2 p (p + 3) := by
      intro q hq ha hb hc
      refine ⟨q.1, q.2.1, q.2.2.1, q.2.2.2, fun k hk => ?_, ha, hb, hc⟩
      obtain ⟨k, rfl⟩ : ∃ m, k = m + 1 := ⟨k - 1, by omega⟩
      exact hq k (by omega)
    by_cases c0 : r = 0
    · exact hg (t, 10000, s, p1 + 1) (fun k hk => by rw [hu k hk, if_pos c0]) (by show p ≤ p1 + 1; omega) (by show p1 + 1 ≤ p + 3; omega) (by show s.size ≤ 40; omega)
    by_cases c1 : r = 1
    · exact hg (t, n, s ++ (⟨#[97, 98, 99, 100, 101, 102, 103]⟩ : ByteArray), p1 + 1) (fun k hk => by rw [hu k hk, if_neg c0, if_pos c1]) (by show p ≤ p1 + 1; omega) (by show p1 + 1 ≤ p + 3; omega) (by show (s ++ _).size ≤ 40; rw [size_app, e7]; omega)
    by_cases c2 : r = 2
    · exact hg (wrap64 (r2 - 1), n, s, p1 + 1 + 1) (fun k hk => by rw [hu k hk, if_neg c0, if_neg c1, if_pos c2]) (by show p ≤ p1 + 1 + 1; omega) (by show p1 + 1 + 1 ≤ p + 3; omega) (by show s.size ≤ 40; omega)
    · exact hg (t, n, s ++ (⟨#[65]⟩ : ByteArray), p1 + 1) (fun k hk => by rw [hu k hk, if_neg c0, if_neg c1, if_neg c2]) (by show p ≤ p1 + 1; omega) (by show p1 + 1 ≤ p + 3; omega) (by show (s ++ _).size ≤ 40; rw [size_app, e1]; omega)
theorem draw_text {l : List Int} (hs : Bytes l) (n0 t n : Int) (hn0 : n0 ≤ 1000) (d : Nat) : ∀ (p : Int) (s : ByteArray), 0 ≤ p → p + d ≤ 99000 → d ≤ 10 → s.size + d ≤ 20 →
    Some4 (fun k => spec_l20Value.l0 k n0 (d : Int) l p t n s) (d + 3) p (p + d + 3) := by
  induction d with
  | zero =>
    intro p s hp hp2 _ hz
    obtain ⟨t', n', s', p', hk', h1, h2, h3⟩ := draw3 hs n0 p t n s hn0 hp (by omega) (by omega)
    refine ⟨t', n', s', p', fun k hk => ?_, h1, by omega, h3⟩
    obtain ⟨k, rfl⟩ : ∃ m, k = m + 1 := ⟨k - 1, by omega⟩
    simp only [spec_l20Value.l0]
    rw [if_neg (by decide)]
    exact hk' k (by omega)
  | succ d ih =>
    intro p s hp hp2 hd hz
    obtain ⟨r, hr, _⟩ := pick_ok hs p 3 hp (by omega) (by decide)
    have hsz : (s ++ strOfNums [(wrap64 (97 + r)) % 256]).size = s.size + 1 := by rw [size_app, strOf_one]
    obtain ⟨t', n', s', p', hk', h1, h2, h3⟩ := ih (p + 1) (s ++ strOfNums [(wrap64 (97 + r)) % 256]) (by omega) (by omega) (by omega) (by omega)
    refine ⟨t', n', s', p', fun k hk => ?_, by omega, by omega, h3⟩
    obtain ⟨k, rfl⟩ : ∃ m, k = m + 1 := ⟨k - 1, by omega⟩
    simp only [spec_l20Value.l0]
    rw [if_pos (by omega), hr k (by omega)]
    simp only [Option.bind_some]
    rw [strOf_one, if_pos (by omega), show wrap64 (((d + 1 : Nat) : Int) - 1) = (d : Int) by rw [w64 (by omega)]; omega]
    exact hk' k (by omega)
theorem draw_ok {l : List Int} (hs : Bytes l) (p n0 : Int) (hp : 0 ≤ p) (hp2 : p ≤ 90000) (hn0 : n0 ≤ 1000) :
    Some4 (fun k => spec_l20Value.f k l p n0) 20 p (p + 20) := by
  obtain ⟨r, hr, r0, r1, _⟩ := pick_ok hs p 7 hp (by omega) (by decide)
  have r1 := r1 (by decide)
  have hu : ∀ k, 1 ≤ k → spec_l20Value.f k l p n0 = (if r = 0 then (spec_l20Value.j3 k n0 l (p + 1) 0 0 (⟨#[]⟩ : ByteArray)) else (if r = 1 then (spec_l20Value.j0 k n0 r (r == 1) l (p + 1)) else (if r = 2 then (spec_l20Value.j0 k n0 r (r == 2) l (p + 1)) else (spec_l20Value.j0 k n0 r (r == 3) l (p + 1))))) := by
    intro k hk
    unfold spec_l20Value.f
    rw [hr k hk]
    rfl
  have e0 : (⟨#[]⟩ : ByteArray).size = 0 := rfl
  -- a number
  have num : Some4 (fun k => spec_l20Value.j0 k n0 r true l (p + 1)) 10 (p + 1) (p + 20) := by
    obtain ⟨a, ha, a0, a1, _⟩ := pick_ok hs (p + 1) 7 (by omega) (by omega) (by decide)
    obtain ⟨b, hb, _⟩ := pick_ok hs (p + 1 + 1) 8 (by omega) (by omega) (by decide)
    obtain ⟨c, hc, c0, c1, _⟩ := pick_ok hs (p + 1 + 1 + 1) 5 (by omega) (by omega) (by decide)
    have c1 := c1 (by decide)
    by_cases hb0 : b = 0
    · obtain ⟨t', n', s', p', hk', h1, h2, h3⟩ := draw3 hs n0 (p + 1 + 1 + 1 + 1) 1 (rd [9999, -9999, 255, 256, -256] c) ⟨#[]⟩ hn0 (by omega) (by omega) (by rw [e0]; omega)
      refine ⟨t', n', s', p', fun k hk => ?_, by omega, by omega, h3⟩
      obtain ⟨k, rfl⟩ : ∃ m, k = m + 1 := ⟨k - 1, by omega⟩
      simp only [spec_l20Value.j0]
      rw [if_pos (by decide), ha k (by omega)]
      simp only [Option.bind_some]
      rw [hb k (by omega)]
      simp only [Option.bind_some]
      rw [if_pos hb0, hc k (by omega)]
      simp only [Option.bind_some]
      rw [if_pos c0, if_pos (show c < ((([9999, -9999, 255, 256, -256] : List Int).length : Nat) : Int) from c1)]
      exact hk' k (by omega)
    · obtain ⟨t', n', s', p', hk', h1, h2, h3⟩ := draw3 hs n0 (p + 1 + 1 + 1) 1 (wrap64 (a - 3)) ⟨#[]⟩ hn0 (by omega) (by omega) (by rw [e0]; omega)
      refine ⟨t', n', s', p', fun k hk => ?_, by omega, by omega, h3⟩
      obtain ⟨k, rfl⟩ : ∃ m, k = m + 1 := ⟨k - 1, by omega⟩
      simp only [spec_l20Value.j0]
      rw [if_pos (by decide), ha k (by omega)]
      simp only [Option.bind_some]
      rw [hb k (by omega)]
      simp only [Option.bind_some]
      rw [if_neg hb0]
      exact hk' k (by omega)
  -- a text
  have text : Some4 (fun k => spec_l20Value.j1 k n0 true l (p + 1)) 15 (p + 1) (p + 20) := by
    obtain ⟨a, ha, a0, a1, _⟩ := pick_ok hs (p + 1) 4 (by omega) (by omega) (by decide)
    have a1 := a1 (by decide)
    obtain ⟨d, rfl⟩ := Int.eq_ofNat_of_zero_le a0
    obtain ⟨t', n', s', p', hk', h1, h2, h3⟩ := draw_text hs n0 2 0 hn0 d (p + 1 + 1) ⟨#[]⟩ (by omega) (by omega) (by omega) (by rw [e0]; omega)
    refine ⟨t', n', s', p', fun k hk => ?_, by omega, by omega, h3⟩
    obtain ⟨k, rfl⟩ : ∃ m, k = m + 1 := ⟨k - 1, by omega⟩
    simp only [spec_l20Value.j1]
    rw [if_pos (by decide), ha k (by omega)]
    simp only [Option.bind_some]
    exact hk' k (by omega)
  -- a truth
  have truth : Some4 (fun k => spec_l20Value.j1 k n0 false l (p + 1)) 15 (p + 1) (p + 20) := by
    obtain ⟨a, ha, _⟩ := pick_ok hs (p + 1) 2 (by omega) (by omega) (by decide)
    obtain ⟨t', n', s', p', hk', h1, h2, h3⟩ := draw3 hs n0 (p + 1 + 1) 3 a ⟨#[]⟩ hn0 (by omega) (by omega) (by rw [e0]; omega)
    refine ⟨t', n', s', p', fun k hk => ?_, by omega, by omega, h3⟩
    obtain ⟨k, rfl⟩ : ∃ m, k = m + 1 := ⟨k - 1, by omega⟩
    simp only [spec_l20Value.j1]
    rw [if_neg (by decide), ha k (by omega)]
    simp only [Option.bind_some]
    exact hk' k (by omega)
  by_cases c0 : r = 0
  · obtain ⟨t', n', s', p', hk', h1, h2, h3⟩ := draw3 hs n0 (p + 1) 0 0 ⟨#[]⟩ hn0 (by omega) (by omega) (by rw [e0]; omega)
    refine ⟨t', n', s', p', fun k hk => ?_, by omega, by omega, h3⟩
    show spec_l20Value.f k l p n0 = _
    rw [hu k (by omega), if_pos c0]
    exact hk' k (by omega)
  by_cases c3 : r = 1 ∨ r = 2 ∨ r = 3
  · obtain ⟨t', n', s', p', hk', h1, h2, h3⟩ := num
    refine ⟨t', n', s', p', fun k hk => ?_, by omega, h2, h3⟩
    show spec_l20Value.f k l p n0 = _
    rw [hu k (by omega), if_neg c0]
    rcases c3 with rfl | rfl | rfl
    · exact hk' k (by omega)
    · exact hk' k (by omega)
    · exact hk' k (by omega)
  · have hj : ∀ k, 1 ≤ k → spec_l20Value.f (k + 1) l p n0 = spec_l20Value.j1 k n0 (r == 4 || r == 5) l (p + 1) := by
      intro k hk
      rw [hu (k + 1) (by omega), if_neg c0, if_neg (by omega), if_neg (by omega), beq_eq_false_iff_ne.2 (show r ≠ 3 by omega)]
      simp only [spec_l20Value.j0]
      rw [if_neg (by decide)]
      by_cases c4 : r = 4
      · rw [if_pos c4, c4]
        rfl
      · rw [if_neg c4, beq_eq_false_iff_ne.2 c4, Bool.false_or]
    by_cases c4 : r = 4 ∨ r = 5
    · obtain ⟨t', n', s', p', hk', h1, h2, h3⟩ := text
      refine ⟨t', n', s', p', fun k hk => ?_, by omega, h2, h3⟩
      obtain ⟨k, rfl⟩ : ∃ m, k = m + 1 := ⟨k - 1, by omega⟩
      show spec_l20Value.f (k + 1) l p n0 = _
      rw [hj k (by omega), show (r == 4 || r == 5) = true by rcases c4 with rfl | rfl <;> rfl]
      exact hk' k (by omega)
    · obtain ⟨t', n', s', p', hk', h1, h2, h3⟩ := truth
      refine ⟨t', n', s', p', fun k hk => ?_, by omega, h2, h3⟩
      obtain ⟨k, rfl⟩ : ∃ m, k = m + 1 := ⟨k - 1, by omega⟩
      show spec_l20Value.f (k + 1) l p n0 = _
      rw [hj k (by omega), show (r == 4 || r == 5) = false by rw [beq_eq_false_iff_ne.2 (show r ≠ 4 by omega), beq_eq_false_iff_ne.2 (show r ≠ 5 by omega)]; rfl]
      exact hk' k (by omega)

end Go.Proofs.Ytdgikheibcmcjaa.Pure
