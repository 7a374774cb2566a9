/- Values stand in one order: FnValueOrder returns true for every list of bytes; no condition. -/
import Derived.Test.YtdgikheibcmcjaaX11
import Derived.Test.YtdgikheibcmcjaaX27
import Derived.Test.YtdgikheibcmcjaaX28
import Derived.Test.YtdgikheibcmcjaaLOpen
import Derived.Test.YtdgikheibcmcjaaLDraw
import Derived.Test.YtdgikheibcmcjaaLOrderS
import Derived.Test.YtdgikheibcmcjaaLVOk2
import Derived.Test.YtdgikheibcmcjaaLAlive
set_option linter.unusedVariables false
set_option linter.unusedSimpArgs false
namespace Go.Proofs.Ytdgikheibcmcjaa.Pure
open Go.RowKit Go.Proofs.Ytdgikheibcmcjaa.X Go.Proofs.YtdgikheibcmcjaaV.PrintWords Go.Proofs.YtdgikheibcmcjaaV.PrintLast Go.Proofs.YtdgikheibcmcjaaV.PrintMore

def VO (t n : Int) (s : ByteArray) (t2 n2 : Int) (s2 : ByteArray) : Int := if VOk t n s = true ∧ VOk t2 n2 s2 = true then VOrd t n s t2 n2 s2 else 0
theorem impl_valueOrder (t n : Int) (s : ByteArray) (t2 n2 : Int) (s2 : ByteArray) (k : Nat) (hk : 4 ≤ k) : impl_ValueOrder.f k t n s t2 n2 s2 = some (VO t n s t2 n2 s2) := by
  unfold impl_ValueOrder.f VO
  rw [impl_ok, impl_ok, impl_order _ _ _ _ _ _ _ hk]
  by_cases h1 : VOk t n s = true
  · by_cases h2 : VOk t2 n2 s2 = true <;> simp [h1, h2]
  · simp [h1]
theorem cs_self (a : ByteArray) : cs a a = 0 := by
  have h : Op.bytesLess a.toList a.toList = false := by
    have := long_greater a.toList a.toList
    rw [← this]
    simp
  unfold cs
  rw [h]
  rfl
theorem cs_neg (a b : ByteArray) : cs b a = - cs a b := by
  unfold cs
  have h1 := long_greater a.toList b.toList
  by_cases ha : Op.bytesLess a.toList b.toList = true
  · rw [if_pos ha]
    rw [ha] at h1
    have hb : ¬ Op.bytesLess b.toList a.toList = true := by rw [← h1]; simp
    rw [if_neg hb, if_pos ha]
    rfl
  · rw [if_neg ha]
    by_cases hb : Op.bytesLess b.toList a.toList = true
    · rw [if_pos hb, if_pos hb, if_neg ha]
    · rw [if_neg hb, if_neg hb, if_neg ha]
      rfl
theorem cs_zero {a b : ByteArray} (h : cs a b = 0) : a.toList = b.toList := by
  unfold cs at h
  by_cases ha : Op.bytesLess a.toList b.toList = true
  · rw [if_pos ha] at h
    cases h
  · rw [if_neg ha] at h
    by_cases hb : Op.bytesLess b.toList a.toList = true
    · rw [if_pos hb] at h
      cases h
    · have h1 := long_greater a.toList b.toList
      rw [Bool.not_eq_true] at ha hb
      rw [ha, hb] at h1
      simpa using h1
theorem vord_neg (t n : Int) (s : ByteArray) (t2 n2 : Int) (s2 : ByteArray) : VOrd t2 n2 s2 t n s = - VOrd t n s t2 n2 s2 := by
  unfold VOrd
  rw [ci_neg t t2, ci_neg n n2, cs_neg s s2]
  by_cases h : ci t t2 = 0
  · rw [if_pos h, if_pos (by omega)]
    by_cases h' : ci n n2 = 0
    · rw [if_pos h', if_pos (by omega)]
    · rw [if_neg h', if_neg (by omega)]
  · rw [if_neg h, if_neg (by omega)]
theorem vord_zero {t n : Int} {s : ByteArray} {t2 n2 : Int} {s2 : ByteArray} : VOrd t n s t2 n2 s2 = 0 ↔ t = t2 ∧ n = n2 ∧ s.toList = s2.toList := by
  constructor
  · unfold VOrd
    intro h
    by_cases h1 : ci t t2 = 0
    · rw [if_pos h1] at h
      by_cases h2 : ci n n2 = 0
      · rw [if_pos h2] at h
        exact ⟨ci_zero.1 h1, ci_zero.1 h2, cs_zero h⟩
      · rw [if_neg h2] at h
        exact absurd h h2
    · rw [if_neg h1] at h
      exact absurd h h1
  · rintro ⟨rfl, rfl, h⟩
    unfold VOrd
    rw [ci_self, ci_self, if_pos rfl, if_pos rfl]
    unfold cs
    rw [h]
    exact cs_self s2
theorem vo_neg (t n : Int) (s : ByteArray) (t2 n2 : Int) (s2 : ByteArray) : VO t2 n2 s2 t n s = - VO t n s t2 n2 s2 := by
  unfold VO
  by_cases h : VOk t n s = true ∧ VOk t2 n2 s2 = true
  · rw [if_pos h, if_pos ⟨h.2, h.1⟩]
    exact vord_neg _ _ _ _ _ _
  · rw [if_neg h, if_neg (fun h' => h ⟨h'.2, h'.1⟩)]
    rfl
theorem vo_range (t n : Int) (s : ByteArray) (t2 n2 : Int) (s2 : ByteArray) : -1 ≤ VO t n s t2 n2 s2 ∧ VO t n s t2 n2 s2 ≤ 1 := by
  unfold VO
  split
  · have := vord_range t n s t2 n2 s2
    omega
  · omega
theorem FnValueOrder : laws_FnValueOrder.Pure := by
  intro l ⟨hl, hw⟩
  refine ⟨200, ?_⟩
  unfold laws_FnValueOrder.f
  by_cases hg : (l.length : Int) > 1048576
  · rw [if_pos hg]
  rw [if_neg hg]
  obtain ⟨s, hs, hB⟩ := open_ok hw
  obtain ⟨t, n, x, p, hd, hp0, hp1, hx⟩ := draw_ok hB 0 15 (by decide) (by decide) (by decide)
  have hd : spec_l20Value.f 200 s 0 15 = some (t, n, x, p) := hd 200 (by decide)
  obtain ⟨q, hq, _⟩ := pick_ok hB p 4 (by omega) (by omega) (by decide)
  obtain ⟨t2, n2, x2, p2, hd2, _, _, hx2⟩ := draw_ok hB (p + 1) 15 (by omega) (by omega) (by decide)
  have hd2 : spec_l20Value.f 200 s (p + 1) 15 = some (t2, n2, x2, p2) := hd2 200 (by decide)
  have hdr : ∃ t2 n2 x2, x2.size ≤ 40 ∧ spec_DrawValueOrder.f 200 l = some (t, n, x, t2, n2, x2) := by
    by_cases h0 : q = 0
    · refine ⟨t, n, x, hx, ?_⟩
      unfold spec_DrawValueOrder.f
      rw [hs]
      simp only [Option.bind_some]
      rw [hd]
      simp only [Option.bind_some]
      rw [hq 200 (by decide)]
      simp only [Option.bind_some]
      rw [if_pos h0]
    · refine ⟨t2, n2, x2, hx2, ?_⟩
      unfold spec_DrawValueOrder.f
      rw [hs]
      simp only [Option.bind_some]
      rw [hd]
      simp only [Option.bind_some]
      rw [hq 200 (by decide)]
      simp only [Option.bind_some]
      rw [if_neg h0, hd2]
      rfl
  clear hd2 hx2
  obtain ⟨t2, n2, x2, hx2, hdr⟩ := hdr
  rw [hdr]
  simp only [Option.bind_some]
  rw [impl_valueOrder _ _ _ _ _ _ _ (by decide), spec_order _ _ _ _ _ _ _ (by simp only [maxLen]; omega) (by simp only [maxLen]; omega) (by omega) (by omega)]
  simp only [Option.bind_some]
  have e : (if VOk t n x = true ∧ VOk t2 n2 x2 = true then VOrd t n x t2 n2 x2 else 0) = VO t n x t2 n2 x2 := rfl
  rw [e, if_pos (by trivial), impl_valueOrder _ _ _ _ _ _ _ (by decide)]
  simp only [Option.bind_some]
  have hr := vo_range t n x t2 n2 x2
  have hneg : VO t n x t2 n2 x2 = wrap64 (-(VO t2 n2 x2 t n x)) := by
    rw [vo_neg t n x t2 n2 x2, w64 (by omega)]
    omega
  rw [if_pos hneg, impl_valueOk, impl_valueOk]
  simp only [Option.bind_some]
  -- the last part: nothing comes ahead of each number, text and truth
  have last : laws_FnValueOrder.j0 200 false t2 n2 x2 = some true := by
    simp only [laws_FnValueOrder.j0]
    rw [if_neg (by decide), impl_valueOk, alive_eq]
    simp only [Option.bind_some]
    by_cases h2 : VOk t2 n2 x2 = true
    · rw [if_pos h2]
      by_cases h0 : t2 = 0
      · rw [if_pos h0]
      · rw [if_neg h0, impl_valueOrder _ _ _ _ _ _ _ (by decide)]
        simp only [Option.bind_some]
        have hk := vok_kind h2
        have e0 : VO 0 0 ⟨#[]⟩ t2 n2 x2 = -1 := by
          unfold VO
          rw [if_pos ⟨by decide +kernel, h2⟩]
          unfold VOrd
          rw [if_neg (fun h => h0 (ci_zero.1 h).symm)]
          unfold ci
          rw [if_pos (by omega)]
        rw [if_pos e0]
    · rw [if_neg h2]
  by_cases h1 : VOk t n x = true
  · rw [if_pos h1]
    by_cases h2 : VOk t2 n2 x2 = true
    · rw [if_pos h2]
      have hz : ((VO t n x t2 n2 x2 == 0) != (t == t2 && (n == n2 && (x.toList == x2.toList)))) = false := by
        have e1 : VO t n x t2 n2 x2 = VOrd t n x t2 n2 x2 := by unfold VO; rw [if_pos ⟨h1, h2⟩]
        rw [e1, bne_eq_false_iff_eq, Bool.eq_iff_iff]
        simp only [beq_iff_eq, Bool.and_eq_true]
        exact vord_zero
      rw [hz]
      exact last
    · rw [if_neg h2]
      exact last
  · rw [if_neg h1]
    exact last

end Go.Proofs.Ytdgikheibcmcjaa.Pure
