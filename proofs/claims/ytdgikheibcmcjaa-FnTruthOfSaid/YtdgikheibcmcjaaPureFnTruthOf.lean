/- Truths are values: FnTruthOf returns true for every list of bytes; no condition. -/
import Derived.Test.YtdgikheibcmcjaaX3
import Derived.Test.YtdgikheibcmcjaaX24
import Derived.Test.YtdgikheibcmcjaaX25
import Derived.Test.YtdgikheibcmcjaaLOpen
import Derived.Test.YtdgikheibcmcjaaLDraw
import Derived.Test.YtdgikheibcmcjaaLTruthVal
import Derived.Test.YtdgikheibcmcjaaLAlive
set_option linter.unusedVariables false
set_option linter.unusedSimpArgs false
namespace Go.Proofs.Ytdgikheibcmcjaa.Pure
open Go.RowKit Go.Proofs.Ytdgikheibcmcjaa.X Go.Proofs.YtdgikheibcmcjaaV.PrintWords Go.Proofs.YtdgikheibcmcjaaV.PrintLast Go.Proofs.YtdgikheibcmcjaaV.PrintMore

theorem valueOf_eq (a : Int) : impl_ValueOf.f a = some (if 0 ≤ a ∧ a ≤ 1 then (3, a, ⟨#[]⟩) else (0, 0, ⟨#[]⟩)) := by
  unfold impl_ValueOf.f
  rw [between_eq]
  by_cases h : 0 ≤ a ∧ a ≤ 1 <;> simp [h]
theorem FnTruthOf : laws_FnTruthOf.Pure := by
  intro l ⟨hl, hw⟩
  refine ⟨200, ?_⟩
  unfold laws_FnTruthOf.f
  by_cases hg : (l.length : Int) > 1048576
  · rw [if_pos hg]
  rw [if_neg hg]
  obtain ⟨s, hs, hB⟩ := open_ok hw
  obtain ⟨t, n, x, p, hd, _, _, hx⟩ := draw_ok hB 0 9 (by decide) (by decide) (by decide)
  have hd : spec_l20Value.f 200 s 0 9 = some (t, n, x, p) := hd 200 (by decide)
  have hdr : spec_DrawTruthOf.f 200 l = some (t, n, x) := by
    unfold spec_DrawTruthOf.f
    rw [hs]
    simp only [Option.bind_some]
    rw [hd]
    rfl
  rw [hdr]
  simp only [Option.bind_some]
  rw [impl_truthOf, spec_truthOf _ _ _ (by simp only [maxLen]; omega) _ (by omega)]
  simp only [Option.bind_some]
  rw [if_pos (by trivial), alive_eq]
  by_cases h1 : TOf t n x = -1
  · rw [if_pos h1]
    rfl
  rw [if_neg h1, valueOf_eq]
  simp only [Option.bind_some]
  -- what it is whose truth is told
  have hk : VOk t n x = true := by
    unfold TOf at h1
    by_cases h : VOk t n x = true
    · exact h
    · rw [if_neg h] at h1
      exact absurd rfl h1
  have hT : TOf t n x = if t = 0 then 2 else if t = 3 then n else -1 := by unfold TOf; rw [if_pos hk]
  rcases vok_cases hk with h | h | h | h
  · obtain ⟨rfl, rfl, hz⟩ := h
    have e : TOf 0 0 x = 2 := by rw [hT]; rfl
    have e2 : (if (0 : Int) ≤ 2 ∧ (2 : Int) ≤ 1 then ((3 : Int), (2 : Int), (⟨#[]⟩ : ByteArray)) else (0, 0, ⟨#[]⟩)) = (0, 0, ⟨#[]⟩) := if_neg (by decide)
    rw [e, e2]
    have hxl : x.toList = ([] : List UInt8) := (nil_iff x).2 hz
    rw [hxl]
    decide +kernel
  · rw [hT, if_neg (by omega), if_neg (by omega)] at h1
    exact absurd rfl h1
  · rw [hT, if_neg (by omega), if_neg (by omega)] at h1
    exact absurd rfl h1
  · obtain ⟨rfl, hz, h0, h2⟩ := h
    have e : TOf 3 n x = n := by rw [hT]; rfl
    have e3 : (if (0 : Int) ≤ n ∧ n ≤ 1 then ((3 : Int), n, (⟨#[]⟩ : ByteArray)) else (0, 0, ⟨#[]⟩)) = (3, n, ⟨#[]⟩) := if_pos ⟨h0, h2⟩
    rw [e, e3]
    have hxl : x.toList = ([] : List UInt8) := (nil_iff x).2 hz
    rw [hxl]
    obtain rfl | rfl : n = 0 ∨ n = 1 := by omega
    · decide +kernel
    · decide +kernel

end Go.Proofs.Ytdgikheibcmcjaa.Pure
