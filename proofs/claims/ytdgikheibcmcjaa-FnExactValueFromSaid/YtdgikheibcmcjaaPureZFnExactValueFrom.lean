/- The program's ValueFrom returns what the reference's returns, for all lists of bytes; no condition. -/
import Derived.Test.YtdgikheibcmcjaaVMore
import Derived.Test.YtdgikheibcmcjaaX0
import Derived.Test.YtdgikheibcmcjaaZFnExactValueFrom7
set_option linter.unusedVariables false
set_option linter.unusedSimpArgs false
namespace Go.Proofs.Ytdgikheibcmcjaa.Pure
open Go.RowKit Go.Proofs.YtdgikheibcmcjaaV.PrintWords Go.Proofs.YtdgikheibcmcjaaV.PrintLast Go.Proofs.YtdgikheibcmcjaaV.PrintMore

theorem w64g {n : Int} (h : -9223372036854775808 ≤ n ∧ n ≤ 9223372036854775807) : wrap64 n = n := by unfold wrap64; omega
theorem scan_all (F : Nat → Int → Option Bool) (n K : Nat) (G : Nat → Prop) (fin : Bool)
    (h1 : ∀ k j, K ≤ k → j < n → G j → F (k + 1) (j : Int) = F k ((j + 1 : Nat) : Int))
    (h2 : ∀ k j, K ≤ k → j < n → ¬ G j → F (k + 1) (j : Int) = some false)
    (h3 : ∀ k, K ≤ k → F (k + 1) (n : Int) = some fin) :
    ∃ b, (∀ k, n + 1 + K ≤ k → F k 0 = some b) ∧ (b = true ↔ ((∀ j, j < n → G j) ∧ fin = true)) := by
  have main : ∀ d i, i + d = n → ∃ b, (∀ k, d + 1 + K ≤ k → F k (i : Int) = some b) ∧ (b = true ↔ ((∀ j, i ≤ j → j < n → G j) ∧ fin = true)) := by
    intro d
    induction d with
    | zero =>
      intro i hi
      have hi : i = n := by omega
      subst hi
      refine ⟨fin, fun k hk => ?_, ⟨fun h => ⟨fun j h1 h2 => by omega, h⟩, fun h => h.2⟩⟩
      obtain ⟨k, rfl⟩ : ∃ m, k = m + 1 := ⟨k - 1, by omega⟩
      exact h3 k (by omega)
    | succ d ih =>
      intro i hi
      by_cases g : G i
      · obtain ⟨b, hb, hb'⟩ := ih (i + 1) (by omega)
        refine ⟨b, fun k hk => ?_, ?_⟩
        · obtain ⟨k, rfl⟩ : ∃ m, k = m + 1 := ⟨k - 1, by omega⟩
          rw [h1 k i (by omega) (by omega) g]
          exact hb k (by omega)
        · rw [hb']
          constructor
          · intro h
            refine ⟨fun j hj hj' => ?_, h.2⟩
            by_cases e : j = i
            · rw [e]; exact g
            · exact h.1 j (by omega) hj'
          · intro h
            exact ⟨fun j hj hj' => h.1 j (by omega) hj', h.2⟩
      · refine ⟨false, fun k hk => ?_, ?_⟩
        · obtain ⟨k, rfl⟩ : ∃ m, k = m + 1 := ⟨k - 1, by omega⟩
          exact h2 k i (by omega) (by omega) g
        · constructor
          · intro h
            cases h
          · intro h
            exact absurd (h.1 i (Nat.le_refl _) (by omega)) g
  obtain ⟨b, hb, hb'⟩ := main n 0 (by omega)
  refine ⟨b, hb, ?_⟩
  rw [hb']
  constructor
  · intro h; exact ⟨fun j hj => h.1 j (by omega) hj, h.2⟩
  · intro h; exact ⟨fun j _ hj => h.1 j hj, h.2⟩
theorem go_all {α : Type} (F : Nat → Int → Option α) (n K c : Nat) (r : α)
    (h1 : ∀ k j, K ≤ k → j < n → F (k + c) (j : Int) = F k ((j + 1 : Nat) : Int))
    (h3 : ∀ k, K ≤ k → F (k + c) (n : Int) = some r) : ∀ k, K + c * (n + 1) ≤ k → F k 0 = some r := by
  have main : ∀ d i, i + d = n → ∀ k, K + c * (d + 1) ≤ k → F k (i : Int) = some r := by
    intro d
    induction d with
    | zero =>
      intro i hi k hk
      have hi : i = n := by omega
      subst hi
      obtain ⟨k, rfl⟩ : ∃ m, k = m + c := ⟨k - c, by omega⟩
      exact h3 k (by omega)
    | succ d ih =>
      intro i hi k hk
      have e : c * (d + 1 + 1) = c * (d + 1) + c := Nat.mul_succ _ _
      obtain ⟨k, rfl⟩ : ∃ m, k = m + c := ⟨k - c, by omega⟩
      rw [h1 k i (by omega) (by omega)]
      exact ih (i + 1) (by omega) k (by omega)
  exact main n 0 (by omega)
theorem copy_all {β : Type} (F : Nat → List β → Int → Option (List β)) (L : List β) (x0 : List β) (hx : x0.length = L.length) (d : β)
    (h1 : ∀ k (x : List β) j, j < L.length → x.length = L.length → F (k + 1) x (j : Int) = F k (x.set j (L.getD j d)) ((j + 1 : Nat) : Int))
    (h3 : ∀ k x, x.length = L.length → F (k + 1) x (L.length : Int) = some x) : ∀ k, L.length + 1 ≤ k → F k x0 0 = some L := by
  have main : ∀ e i, i + e = L.length → ∀ k, e + 1 ≤ k → F k (L.take i ++ x0.drop i) (i : Int) = some L := by
    intro e
    induction e with
    | zero =>
      intro i hi k hk
      have hi : i = L.length := by omega
      subst hi
      obtain ⟨k, rfl⟩ : ∃ m, k = m + 1 := ⟨k - 1, by omega⟩
      rw [h3 k _ (by simp [hx]), List.take_length, List.drop_of_length_le (by omega), List.append_nil]
    | succ e ih =>
      intro i hi k hk
      obtain ⟨k, rfl⟩ : ∃ m, k = m + 1 := ⟨k - 1, by omega⟩
      have hlen : (L.take i ++ x0.drop i).length = L.length := by
        rw [List.length_append, List.length_take, List.length_drop]
        omega
      rw [h1 k _ i (by omega) hlen]
      have hi' : i < L.length := by omega
      have hi2 : i < x0.length := by omega
      have e2 : (L.take i ++ x0.drop i).set i (L.getD i d) = L.take (i + 1) ++ x0.drop (i + 1) := by
        rw [List.set_append_right _ _ (by rw [List.length_take]; omega), List.length_take, show i - min i L.length = 0 by omega, List.drop_eq_getElem_cons hi2, List.set_cons_zero]
        rw [List.take_succ_eq_append_getElem hi', List.append_assoc]
        congr 1
        rw [List.getD_eq_getElem?_getD, List.getElem?_eq_getElem hi']
        rfl
      rw [e2]
      exact ih (i + 1) (by omega) k (by omega)
  intro k hk
  have := main L.length 0 (by omega) k hk
  simpa using this
theorem chain_iff {α : Type} (d : α) (Q : α → Prop) (R : α → α → Prop) (tr : ∀ a b c, R a b → R b c → R a c) (l : List α) :
    (∀ j, j < l.length → Q (l.getD j d) ∧ (0 < j → R (l.getD (j - 1) d) (l.getD j d))) ↔ ((∀ x ∈ l, Q x) ∧ l.Pairwise R) := by
  have gd : ∀ j (h : j < l.length), l.getD j d = l[j] := by
    intro j h
    rw [List.getD_eq_getElem?_getD, List.getElem?_eq_getElem h]
    rfl
  constructor
  · intro h
    refine ⟨fun x hx => ?_, ?_⟩
    · obtain ⟨j, hj, rfl⟩ := List.getElem_of_mem hx
      rw [← gd j hj]
      exact (h j hj).1
    · rw [List.pairwise_iff_getElem]
      have main : ∀ e i (hi : i < l.length) (hj : i + e + 1 < l.length), R l[i] l[i + e + 1] := by
        intro e
        induction e with
        | zero =>
          intro i hi hj
          have := (h (i + 0 + 1) hj).2 (by omega)
          rw [gd _ (show i + 0 + 1 - 1 < l.length by omega), gd _ hj] at this
          exact this
        | succ e ih =>
          intro i hi hj
          have h1 := ih i hi (by omega)
          have := (h (i + (e + 1) + 1) hj).2 (by omega)
          rw [gd _ (show i + (e + 1) + 1 - 1 < l.length by omega), gd _ hj] at this
          exact tr _ _ _ h1 this
      intro i j hi hj hij
      obtain ⟨e, rfl⟩ : ∃ e, j = i + e + 1 := ⟨j - i - 1, by omega⟩
      exact main e i hi hj
  · intro h j hj
    refine ⟨?_, fun h0 => ?_⟩
    · rw [gd j hj]
      exact h.1 _ (List.getElem_mem hj)
    · rw [gd j hj, gd (j - 1) (by omega)]
      exact List.pairwise_iff_getElem.1 h.2 (j - 1) j (by omega) hj (by omega)
/-- What holds of a chain holds of the chain without one of its elements. -/
theorem chain_less {α : Type} {Q : α → Prop} {R : α → α → Prop} {l : List α} (h : (∀ x ∈ l, Q x) ∧ l.Pairwise R) (a b : Nat) (hab : a ≤ b) :
    (∀ x ∈ l.take a ++ l.drop b, Q x) ∧ (l.take a ++ l.drop b).Pairwise R := by
  have sub : (l.take a ++ l.drop b).Sublist l := by
    have h1 : (l.take a ++ l.drop b).Sublist (l.take a ++ l.drop a) := by
      apply List.Sublist.append (List.Sublist.refl _)
      rw [show b = a + (b - a) by omega, ← List.drop_drop]
      exact List.drop_sublist _ _
    rwa [List.take_append_drop] at h1
  exact ⟨fun x hx => h.1 x (sub.subset hx), h.2.sublist sub⟩
theorem go_all2 {α : Type} (F : Nat → Int → Option α) (n K : Nat) (r : α)
    (h1 : ∀ k j, K ≤ k → j < n → F (k + 1 + 1) (j : Int) = F k ((j + 1 : Nat) : Int))
    (h3 : ∀ k, K ≤ k → F (k + 1 + 1) (n : Int) = some r) : ∀ k, K + 2 * (n + 1) ≤ k → F k 0 = some r :=
  go_all F n K 2 r h1 h3
theorem any_ok {α : Type} (F : Nat → Int → Option α) (n K : Nat)
    (h1 : ∀ j, j < n → (∃ r, ∀ k, K ≤ k → F (k + 1) (j : Int) = some r) ∨ (∀ k, K ≤ k → F (k + 1) (j : Int) = F k ((j + 1 : Nat) : Int)))
    (h3 : ∃ r, ∀ k, K ≤ k → F (k + 1) (n : Int) = some r) : ∃ r, ∀ k, n + 1 + K ≤ k → F k 0 = some r := by
  have main : ∀ d i, i + d = n → ∃ r, ∀ k, d + 1 + K ≤ k → F k (i : Int) = some r := by
    intro d
    induction d with
    | zero =>
      intro i hi
      have hi : i = n := by omega
      subst hi
      obtain ⟨r, hr⟩ := h3
      refine ⟨r, fun k hk => ?_⟩
      obtain ⟨k, rfl⟩ : ∃ m, k = m + 1 := ⟨k - 1, by omega⟩
      exact hr k (by omega)
    | succ d ih =>
      intro i hi
      rcases h1 i (by omega) with ⟨r, hr⟩ | h
      · refine ⟨r, fun k hk => ?_⟩
        obtain ⟨k, rfl⟩ : ∃ m, k = m + 1 := ⟨k - 1, by omega⟩
        exact hr k (by omega)
      · obtain ⟨r, hr⟩ := ih (i + 1) (by omega)
        refine ⟨r, fun k hk => ?_⟩
        obtain ⟨k, rfl⟩ : ∃ m, k = m + 1 := ⟨k - 1, by omega⟩
        rw [h k (by omega)]
        exact hr k (by omega)
  exact main n 0 (by omega)

end Go.Proofs.Ytdgikheibcmcjaa.Pure
set_option linter.unusedVariables false
set_option linter.unusedSimpArgs false
namespace Go.Proofs.Ytdgikheibcmcjaa.Pure
open Go.RowKit Go.Proofs.Ytdgikheibcmcjaa.X Go.Proofs.YtdgikheibcmcjaaV.PrintWords Go.Proofs.YtdgikheibcmcjaaV.PrintLast Go.Proofs.YtdgikheibcmcjaaV.PrintMore

theorem between_eq (a lo hi : Int) : impl_between.f a lo hi = some (decide (lo ≤ a ∧ a ≤ hi)) := by
  unfold impl_between.f
  by_cases h : a ≥ lo
  · rw [if_pos h]
    by_cases g : a ≤ hi
    · rw [decide_eq_true g, decide_eq_true ⟨h, g⟩]
    · rw [decide_eq_false g, decide_eq_false (fun h' => g h'.2)]
  · rw [if_neg h, decide_eq_false (fun h' => h h'.1)]

end Go.Proofs.Ytdgikheibcmcjaa.Pure
set_option linter.unusedVariables false
set_option linter.unusedSimpArgs false
namespace Go.Proofs.Ytdgikheibcmcjaa.Pure
open Go.RowKit Go.Proofs.Ytdgikheibcmcjaa.X Go.Proofs.YtdgikheibcmcjaaV.PrintWords Go.Proofs.YtdgikheibcmcjaaV.PrintLast Go.Proofs.YtdgikheibcmcjaaV.PrintMore

theorem toList_data (s : ByteArray) : s.toList = s.data.toList := ByteArray.toList_eq s
theorem data_size (s : ByteArray) : s.data.toList.length = s.size := by rw [Array.length_toList]; rfl
theorem nil_iff (s : ByteArray) : s.toList = ([] : List UInt8) ↔ s.size = 0 := by
  rw [toList_data, ← List.length_eq_zero_iff, data_size]
theorem nil_beq (s : ByteArray) : (s.toList == ([] : List UInt8)) = decide (s.size = 0) := by
  rw [Bool.eq_iff_iff, beq_iff_eq, nil_iff, decide_eq_true_iff]
/-- Small letters alone. -/
def Low (s : ByteArray) : Bool := s.data.toList.all fun c => decide (97 ≤ c.toNat ∧ c.toNat ≤ 122)
/-- A value: its kind, its number, its text. -/
def VOk (t n : Int) (s : ByteArray) : Bool :=
  decide (t = 0 ∧ n = 0 ∧ s.size = 0) || decide (t = 1 ∧ s.size = 0 ∧ -9999 ≤ n ∧ n ≤ 9999) || (decide (t = 2 ∧ n = 0 ∧ s.size ≤ 6) && Low s) || decide (t = 3 ∧ s.size = 0 ∧ 0 ≤ n ∧ n ≤ 1)
theorem letters_eq (s : ByteArray) (h : s.size ≤ 6) : impl_letters.f s = some (Low s) := by
  unfold impl_letters.f
  rw [if_pos (by omega)]
  rfl
theorem vok0 {t n : Int} {s : ByteArray} (ht : t = 0) : VOk t n s = decide (n = 0 ∧ s.size = 0) := by subst ht; simp [VOk]
theorem vok1 {t n : Int} {s : ByteArray} (ht : t = 1) : VOk t n s = decide (s.size = 0 ∧ -9999 ≤ n ∧ n ≤ 9999) := by subst ht; simp [VOk]
theorem vok2 {t n : Int} {s : ByteArray} (ht : t = 2) : VOk t n s = (decide (n = 0 ∧ s.size ≤ 6) && Low s) := by subst ht; simp [VOk]
theorem vok3 {t n : Int} {s : ByteArray} (ht : t = 3) : VOk t n s = decide (s.size = 0 ∧ 0 ≤ n ∧ n ≤ 1) := by subst ht; simp [VOk]
theorem vokx {t n : Int} {s : ByteArray} (h0 : ¬ t = 0) (h1 : ¬ t = 1) (h2 : ¬ t = 2) (h3 : ¬ t = 3) : VOk t n s = false := by simp [VOk, h0, h1, h2, h3]
theorem impl_ok (t n : Int) (s : ByteArray) : impl_Value_ok.f t n s = some (VOk t n s) := by
  unfold impl_Value_ok.f
  by_cases h0 : t = 0
  · rw [if_pos h0, vok0 h0, nil_beq]
    subst h0
    congr 1
    rw [Bool.eq_iff_iff]
    simp
  rw [if_neg h0]
  by_cases h1 : t = 1
  · rw [if_pos h1, vok1 h1]
    by_cases hs : s.size = 0
    · rw [if_pos ((nil_iff s).2 hs), between_eq]
      simp [hs]
    · rw [if_neg (fun h => hs ((nil_iff s).1 h))]
      simp [hs]
  rw [if_neg h1]
  by_cases h2 : t = 2
  · rw [if_pos h2, vok2 h2]
    by_cases hn : n = 0
    · rw [if_pos hn]
      by_cases hs : (s.size : Int) ≤ 6
      · rw [if_pos hs, letters_eq s (by omega)]
        have : s.size ≤ 6 := by omega
        simp [hn, this]
      · rw [if_neg hs]
        have : ¬ s.size ≤ 6 := by omega
        simp [this]
    · rw [if_neg hn]
      simp [hn]
  rw [if_neg h2]
  by_cases h3 : t = 3
  · rw [if_pos h3, vok3 h3]
    by_cases hs : s.size = 0
    · rw [if_pos ((nil_iff s).2 hs), between_eq]
      simp [hs]
    · rw [if_neg (fun h => hs ((nil_iff s).1 h))]
      simp [hs]
  · rw [if_neg h3, vokx h0 h1 h2 h3]
/-- What is known of a value. -/
theorem vok_cases {t n : Int} {s : ByteArray} (h : VOk t n s = true) :
    (t = 0 ∧ n = 0 ∧ s.size = 0) ∨ (t = 1 ∧ s.size = 0 ∧ -9999 ≤ n ∧ n ≤ 9999) ∨ (t = 2 ∧ n = 0 ∧ s.size ≤ 6 ∧ Low s = true) ∨ (t = 3 ∧ s.size = 0 ∧ 0 ≤ n ∧ n ≤ 1) := by
  simp only [VOk, Bool.or_eq_true, Bool.and_eq_true, decide_eq_true_eq] at h
  rcases h with ((h | h) | h) | h
  · exact .inl h
  · exact .inr (.inl h)
  · exact .inr (.inr (.inl ⟨h.1.1, h.1.2.1, h.1.2.2, h.2⟩))
  · exact .inr (.inr (.inr h))
theorem vok_size {t n : Int} {s : ByteArray} (h : VOk t n s = true) : s.size ≤ 6 := by
  rcases vok_cases h with h | h | h | h <;> omega
theorem vok_kind {t n : Int} {s : ByteArray} (h : VOk t n s = true) : 0 ≤ t ∧ t ≤ 3 := by
  rcases vok_cases h with h | h | h | h <;> omega
theorem vok_num {t n : Int} {s : ByteArray} (h : VOk t n s = true) : -9999 ≤ n ∧ n ≤ 9999 := by
  rcases vok_cases h with h | h | h | h <;> omega

end Go.Proofs.Ytdgikheibcmcjaa.Pure
set_option linter.unusedVariables false
set_option linter.unusedSimpArgs false
namespace Go.Proofs.Ytdgikheibcmcjaa.Pure
open Go.RowKit Go.Proofs.Ytdgikheibcmcjaa.X Go.Proofs.YtdgikheibcmcjaaV.PrintWords Go.Proofs.YtdgikheibcmcjaaV.PrintLast Go.Proofs.YtdgikheibcmcjaaV.PrintMore

def VB (t n : Int) (s : ByteArray) : List Int :=
  if VOk t n s = true then (if t = 1 then [1, (n + 10000) / 256, (n + 10000) % 256] else if t = 2 then 2 :: (s.size : Int) :: bytesOf s else if t = 3 then [3, n] else [0]) else []
theorem bytes_len (s : ByteArray) : (bytesOf s).length = s.size := bytesOf_length s
theorem vb_len (t n : Int) (s : ByteArray) : (VB t n s).length ≤ 8 := by
  unfold VB
  split
  · rename_i h
    have := vok_size h
    split
    · simp
    · split
      · simp only [List.length_cons, bytes_len]; omega
      · split <;> simp
  · simp
theorem impl_vb {t n : Int} {s : ByteArray} (h : VOk t n s = true) : impl_Value_bytes.f t n s = some (VB t n s) := by
  unfold impl_Value_bytes.f VB
  rw [if_pos h]
  rcases vok_cases h with ⟨rfl, rfl, h3⟩ | ⟨rfl, h3, h4, h5⟩ | ⟨rfl, rfl, h3, h4⟩ | ⟨rfl, h3, h4, h5⟩
  · rfl
  · simp only [Option.bind_some, if_true]
    rw [w64g (n := n + 10000) (by omega), if_pos (by simp)]
    have e1 : (n + 10000) / 256 % 256 = (n + 10000) / 256 := by omega
    rw [e1]
    rfl
  · have e1 : (s.size : Int) % 256 = s.size := by omega
    simp only [Option.bind_some, show ((2 : Int) = 1) = False from eq_false (by decide), if_false, if_true, e1]
    rw [if_pos (by simp), if_pos (by simp; omega)]
    rfl
  · have e1 : n % 256 = n := by omega
    simp only [Option.bind_some, show ((3 : Int) = 1) = False from eq_false (by decide), show ((3 : Int) = 2) = False from eq_false (by decide), if_false, if_true, e1]
    rw [if_pos (by simp)]
    rfl
theorem vb_byte {t n : Int} {s : ByteArray} : ∀ x ∈ VB t n s, 0 ≤ x ∧ x ≤ 255 := by
  intro x hx
  unfold VB at hx
  split at hx
  · rename_i h
    rcases vok_cases h with ⟨rfl, rfl, h3⟩ | ⟨rfl, h3, h4, h5⟩ | ⟨rfl, rfl, h3, h4⟩ | ⟨rfl, h3, h4, h5⟩
    · have : x = 0 := by simpa using hx
      omega
    · have : x = 1 ∨ x = (n + 10000) / 256 ∨ x = (n + 10000) % 256 := by simpa using hx
      omega
    · have : x = 2 ∨ x = (s.size : Int) ∨ x ∈ bytesOf s := by simpa using hx
      rcases this with h | h | h
      · omega
      · omega
      · unfold bytesOf at h
        obtain ⟨b, _, rfl⟩ := List.mem_map.1 h
        have := b.toNat_lt
        omega
    · have : x = 3 ∨ x = n := by simpa using hx
      omega
  · cases hx

end Go.Proofs.Ytdgikheibcmcjaa.Pure
set_option linter.unusedVariables false
set_option linter.unusedSimpArgs false
namespace Go.Proofs.Ytdgikheibcmcjaa.Pure
open Go.RowKit Go.Proofs.Ytdgikheibcmcjaa.X Go.Proofs.YtdgikheibcmcjaaV.PrintWords Go.Proofs.YtdgikheibcmcjaaV.PrintLast Go.Proofs.YtdgikheibcmcjaaV.PrintMore

def Byt (l : List Int) : Prop := ∀ x ∈ l, 0 ≤ x ∧ x ≤ 255
theorem byt_rd {l : List Int} (h : Byt l) (i : Int) : 0 ≤ rd l i ∧ rd l i ≤ 255 := by
  unfold rd
  rw [List.getD_eq_getElem?_getD]
  by_cases hi : i.toNat < l.length
  · rw [List.getElem?_eq_getElem hi]
    exact h _ (List.getElem_mem hi)
  · rw [List.getElem?_eq_none (by omega)]
    simp
theorem byt_take {l : List Int} (h : Byt l) (n : Nat) : Byt (l.take n) := fun x hx => h x (List.mem_of_mem_take hx)
theorem byt_drop {l : List Int} (h : Byt l) (n : Nat) : Byt (l.drop n) := fun x hx => h x (List.mem_of_mem_drop hx)
theorem bytesOf_str : ∀ {xs : List Int}, Byt xs → bytesOf (strOfNums xs) = xs := by
  intro xs h
  unfold bytesOf
  rw [strOfNums_data, List.map_map]
  have : ∀ x ∈ xs, ((fun b : UInt8 => (b.toNat : Int)) ∘ fun n : Int => UInt8.ofNat n.toNat) x = x := by
    intro x hx
    have := h x hx
    show (((UInt8.ofNat x.toNat).toNat : Nat) : Int) = x
    rw [UInt8.toNat_ofNat']
    omega
  calc xs.map _ = xs.map id := List.map_congr_left this
    _ = xs := List.map_id xs
theorem str_inj {xs ys : List Int} (hx : Byt xs) (hy : Byt ys) : (strOfNums xs).toList = (strOfNums ys).toList ↔ xs = ys := by
  constructor
  · intro h
    rw [toList_data, toList_data] at h
    have e : bytesOf (strOfNums xs) = bytesOf (strOfNums ys) := by unfold bytesOf; rw [h]
    rwa [bytesOf_str hx, bytesOf_str hy] at e
  · intro h
    rw [h]
theorem str_bytes (s : ByteArray) : strOfNums (bytesOf s) = s := by
  have h1 : (strOfNums (bytesOf s)).data.toList = s.data.toList := by
    rw [strOfNums_data]
    unfold bytesOf
    rw [List.map_map]
    have : ∀ b ∈ s.data.toList, ((fun n : Int => UInt8.ofNat n.toNat) ∘ fun b : UInt8 => (b.toNat : Int)) b = b := by
      intro b _
      show UInt8.ofNat ((b.toNat : Int).toNat) = b
      rw [Int.toNat_natCast, UInt8.ofNat_toNat]
    calc s.data.toList.map _ = s.data.toList.map id := List.map_congr_left this
      _ = _ := List.map_id _
  cases h : strOfNums (bytesOf s) with
  | mk d =>
    rw [h] at h1
    cases s with
    | mk e =>
      congr 1
      exact Array.toList_inj.1 h1

end Go.Proofs.Ytdgikheibcmcjaa.Pure
set_option linter.unusedVariables false
set_option linter.unusedSimpArgs false
namespace Go.Proofs.Ytdgikheibcmcjaa.Pure
open Go.RowKit Go.Proofs.Ytdgikheibcmcjaa.X Go.Proofs.YtdgikheibcmcjaaV.PrintWords Go.Proofs.YtdgikheibcmcjaaV.PrintLast Go.Proofs.YtdgikheibcmcjaaV.PrintMore

def E0 : ByteArray := ⟨#[]⟩
def Z4 : Int × Int × ByteArray × Int := (0, 0, E0, 0)
def Ok4 (t n : Int) (s : ByteArray) (L : Int) : Int × Int × ByteArray × Int := if VOk t n s = true then (t, n, s, L) else Z4
def Txt (l : List Int) : ByteArray := strOfNums ((l.take (2 + rd l 1).toNat).drop 2)
def VF0 (l : List Int) : Int × Int × ByteArray × Int :=
  if rd l 0 = 2 ∧ 1 < (l.length : Int) ∧ 2 + rd l 1 ≤ (l.length : Int) then Ok4 2 0 (Txt l) (2 + rd l 1) else if rd l 0 = 3 ∧ 1 < (l.length : Int) then Ok4 3 (rd l 1) E0 2 else if rd l 0 = 0 then (0, 0, E0, 1) else Z4
def VF (l : List Int) : Int × Int × ByteArray × Int :=
  if (l.length : Int) = 0 then Z4 else if rd l 0 = 1 ∧ 2 < (l.length : Int) then Ok4 1 (256 * rd l 1 + rd l 2 - 10000) E0 3 else VF0 l
theorem vok_zero : VOk 0 0 E0 = true := by decide
theorem impl_j2f (l : List Int) (t : Int) (k : Nat) : impl_ValueFrom.j2 (k + 1) l 1 false t 0 E0 = some (if t = 0 then (0, 0, E0, 1) else Z4) := by
  rw [impl_ValueFrom.j2, if_neg (by decide)]
  by_cases h : t = 0
  · subst h
    rw [if_pos rfl, if_pos rfl, impl_ok, vok_zero]
    rfl
  · rw [if_neg h, if_neg h]
    rfl
theorem impl_j1f {l : List Int} (hB : Byt l) (t : Int) (k : Nat) : impl_ValueFrom.j1 (k + 2) l 1 false t 0 E0 = some (if t = 3 ∧ 1 < (l.length : Int) then Ok4 3 (rd l 1) E0 2 else if t = 0 then (0, 0, E0, 1) else Z4) := by
  rw [impl_ValueFrom.j1, if_neg (by decide)]
  by_cases h : t = 3
  · subst h
    rw [if_pos rfl]
    by_cases hl : (l.length : Int) > 1
    · have hr := byt_rd hB 1
      rw [decide_eq_true hl, if_pos ⟨rfl, hl⟩, impl_ValueFrom.j2, if_pos rfl, if_pos hl, w64g (n := rd l 1) (by omega), impl_ok]
      unfold Ok4
      by_cases hv : VOk 3 (rd l 1) E0 = true
      · simp only [Option.bind_some, hv, if_true]
      · simp only [Option.bind_some, hv, if_false]
        rfl
    · rw [decide_eq_false hl, if_neg (fun h => hl h.2), impl_j2f]
  · rw [if_neg h, impl_j2f, if_neg (show ¬ (t = 3 ∧ 1 < (l.length : Int)) from fun h2 => h h2.1)]
theorem impl_j0f {l : List Int} (hB : Byt l) (k : Nat) : impl_ValueFrom.j0 (k + 3) l 1 false (rd l 0) 0 E0 = some (VF0 l) := by
  have hr := byt_rd hB 1
  unfold VF0
  rw [impl_ValueFrom.j0, if_neg (by decide)]
  by_cases h : rd l 0 = 2
  · rw [if_pos h, h]
    by_cases hl : (l.length : Int) > 1
    · rw [if_pos hl, if_pos hl, w64g (n := rd l 1) (by omega), w64g (n := 2 + rd l 1) (by omega)]
      by_cases hg : (l.length : Int) ≥ 2 + rd l 1
      · rw [decide_eq_true hg, if_pos ⟨rfl, hl, hg⟩, impl_ValueFrom.j1, if_pos rfl, if_pos hl, w64g (n := rd l 1) (by omega), w64g (n := 2 + rd l 1) (by omega), if_pos (by omega), if_pos hg, impl_ok]
        unfold Ok4
        by_cases hv : VOk 2 0 (Txt l) = true
        · have hv2 : VOk 2 0 (strOfNums ((l.take (2 + rd l 1).toNat).drop 2)) = true := hv
          simp only [Option.bind_some, hv, hv2, if_true]
          rfl
        · have hv2 : ¬ VOk 2 0 (strOfNums ((l.take (2 + rd l 1).toNat).drop 2)) = true := hv
          simp only [Option.bind_some, hv, hv2, if_false]
          rfl
      · rw [decide_eq_false hg, if_neg (fun h => hg h.2.2), impl_j1f hB]
    · rw [if_neg hl, if_neg (fun h => hl h.2.1), impl_j1f hB]
  · rw [if_neg h, if_neg (fun h2 => h h2.1), impl_j1f hB]
theorem impl_vf {l : List Int} (hB : Byt l) (k : Nat) (hk : 4 ≤ k) : impl_ValueFrom.f k l = some (VF l) := by
  have hr0 := byt_rd hB 0
  have hr1 := byt_rd hB 1
  have hr2 := byt_rd hB 2
  obtain ⟨k, rfl⟩ : ∃ m, k = m + 3 := ⟨k - 3, by omega⟩
  unfold impl_ValueFrom.f VF
  by_cases hz : (l.length : Int) = 0
  · rw [if_pos hz, if_pos hz]
    rfl
  rw [if_neg hz, if_neg hz, if_pos (by omega), w64g (n := rd l 0) (by omega)]
  by_cases h1 : rd l 0 = 1
  · rw [if_pos h1]
    by_cases hl : (l.length : Int) > 2
    · rw [decide_eq_true hl, if_pos ⟨h1, hl⟩, h1, impl_ValueFrom.j0, if_pos rfl, if_pos (by omega), if_pos hl, w64g (n := rd l 1) (by omega), w64g (n := rd l 2) (by omega), w64g (n := rd l 1 * 256) (by omega), w64g (n := rd l 1 * 256 + rd l 2) (by omega), w64g (n := rd l 1 * 256 + rd l 2 - 10000) (by omega), impl_ok, show rd l 1 * 256 + rd l 2 - 10000 = 256 * rd l 1 + rd l 2 - 10000 by omega]
      unfold Ok4
      by_cases hv : VOk 1 (256 * rd l 1 + rd l 2 - 10000) E0 = true
      · have hv2 : VOk 1 (256 * rd l 1 + rd l 2 - 10000) ⟨#[]⟩ = true := hv
        simp only [Option.bind_some, hv, hv2, if_true]
        rfl
      · have hv2 : ¬ VOk 1 (256 * rd l 1 + rd l 2 - 10000) ⟨#[]⟩ = true := hv
        simp only [Option.bind_some, hv, hv2, if_false]
        rfl
    · rw [decide_eq_false hl, if_neg (fun h => hl h.2)]
      exact impl_j0f hB k
  · rw [if_neg h1, if_neg (fun h => h1 h.1)]
    exact impl_j0f hB k

end Go.Proofs.Ytdgikheibcmcjaa.Pure
set_option linter.unusedVariables false
set_option linter.unusedSimpArgs false
namespace Go.Proofs.Ytdgikheibcmcjaa.Pure
open Go.RowKit Go.Proofs.Ytdgikheibcmcjaa.X Go.Proofs.YtdgikheibcmcjaaV.PrintWords Go.Proofs.YtdgikheibcmcjaaV.PrintLast Go.Proofs.YtdgikheibcmcjaaV.PrintMore

theorem l1In_eq (a lo hi : Int) : spec_l1In.f a lo hi = some (decide (lo ≤ a ∧ a ≤ hi)) := by
  unfold spec_l1In.f
  by_cases h : a ≥ lo
  · rw [if_pos h]
    by_cases g : a ≤ hi
    · rw [decide_eq_true g, decide_eq_true ⟨h, g⟩]
    · rw [decide_eq_false g, decide_eq_false (fun h' => g h'.2)]
  · rw [if_neg h, decide_eq_false (fun h' => h h'.1)]

end Go.Proofs.Ytdgikheibcmcjaa.Pure
set_option linter.unusedVariables false
set_option linter.unusedSimpArgs false
namespace Go.Proofs.Ytdgikheibcmcjaa.Pure
open Go.RowKit Go.Proofs.Ytdgikheibcmcjaa.X Go.Proofs.YtdgikheibcmcjaaV.PrintWords Go.Proofs.YtdgikheibcmcjaaV.PrintLast Go.Proofs.YtdgikheibcmcjaaV.PrintMore

theorem bt_nat (s : ByteArray) (i : Nat) (h : i < s.size) : bt s (i : Int) = ((s.data.toList.getD i 0).toNat : Int) := by
  have h1 : (i : Int).toNat < s.size := by omega
  rw [← bt_at s i h1]
  have h2 : i < s.data.toList.length := by rw [data_size]; exact h
  rw [List.getD_eq_getElem?_getD, List.getElem?_eq_getElem h2]
  rfl
theorem text_from (s : ByteArray) (hm : s.size ≤ 9223372036854775807) (d : Nat) : ∀ (k i : Nat), i + d = s.size → d < k →
    spec_l1Text.l0 k s (i : Int) = some (((s.data.toList.drop i).all fun c => decide (97 ≤ c.toNat ∧ c.toNat ≤ 122)) && decide (s.size ≤ 6)) := by
  induction d with
  | zero =>
    intro k i hi hk
    obtain ⟨k, rfl⟩ : ∃ m, k = m + 1 := ⟨k - 1, by omega⟩
    simp only [spec_l1Text.l0]
    rw [if_neg (by omega), List.drop_of_length_le (by rw [data_size]; omega)]
    congr 1
    rw [Bool.eq_iff_iff]
    simp
    omega
  | succ d ih =>
    intro k i hi hk
    obtain ⟨k, rfl⟩ : ∃ m, k = m + 1 := ⟨k - 1, by omega⟩
    have hl : i < s.data.toList.length := by rw [data_size]; omega
    simp only [spec_l1Text.l0]
    rw [if_pos (by omega), if_pos (by omega), bt_nat s i (by omega), List.drop_eq_getElem_cons hl, List.all_cons]
    have e : s.data.toList.getD i 0 = s.data.toList[i] := by rw [List.getD_eq_getElem?_getD, List.getElem?_eq_getElem hl]; rfl
    rw [e]
    generalize s.data.toList[i] = c
    by_cases h1 : (c.toNat : Int) < 97
    · rw [if_pos h1, decide_eq_false (by omega)]
      rfl
    · rw [if_neg h1]
      by_cases h2 : (c.toNat : Int) > 122
      · rw [if_pos h2, decide_eq_false (by omega)]
        rfl
      · rw [if_neg h2, decide_eq_true (by omega), Bool.true_and]
        have ew : wrap64 ((i : Int) + 1) = ((i + 1 : Nat) : Int) := by unfold wrap64; omega
        rw [ew]
        exact ih k (i + 1) (by omega) (by omega)
theorem text_eq (s : ByteArray) (hm : s.size ≤ maxLen) (k : Nat) (hk : s.size < k) : spec_l1Text.f k s = some (Low s && decide (s.size ≤ 6)) := by
  unfold spec_l1Text.f
  have := text_from s (by simpa [maxLen] using hm) s.size k 0 (by omega) hk
  rw [List.drop_zero] at this
  exact this
theorem spec_ok (t n : Int) (s : ByteArray) (hm : s.size ≤ maxLen) (k : Nat) (hk : s.size < k) : spec_ValueOk.f k t n s = some (VOk t n s) := by
  unfold spec_ValueOk.f
  by_cases h0 : t = 0
  · rw [if_pos h0, vok0 h0, nil_beq]
    by_cases hn : n = 0 <;> simp [hn]
  rw [if_neg h0]
  by_cases h1 : t = 1
  · rw [if_pos h1, vok1 h1, l1In_eq, nil_beq]
    by_cases hn : -9999 ≤ n ∧ n ≤ 9999 <;> simp [hn]
  rw [if_neg h1]
  by_cases h2 : t = 2
  · rw [if_pos h2, vok2 h2, text_eq s hm k hk]
    by_cases hn : n = 0 <;> simp [hn, Bool.and_comm]
  rw [if_neg h2]
  by_cases h3 : t = 3
  · rw [if_pos h3, vok3 h3, l1In_eq, nil_beq]
    by_cases hn : 0 ≤ n ∧ n ≤ 1 <;> simp [hn]
  · rw [if_neg h3, vokx h0 h1 h2 h3]

end Go.Proofs.Ytdgikheibcmcjaa.Pure
set_option linter.unusedVariables false
set_option linter.unusedSimpArgs false
namespace Go.Proofs.Ytdgikheibcmcjaa.Pure
open Go.RowKit Go.Proofs.Ytdgikheibcmcjaa.X Go.Proofs.YtdgikheibcmcjaaV.PrintWords Go.Proofs.YtdgikheibcmcjaaV.PrintLast Go.Proofs.YtdgikheibcmcjaaV.PrintMore

theorem impl_vbytes (t n : Int) (s : ByteArray) : impl_ValueBytes.f t n s = some (VB t n s) := by
  unfold impl_ValueBytes.f
  rw [impl_ok]
  simp only [Option.bind_some]
  by_cases h : VOk t n s = true
  · rw [if_pos h, impl_vb h]
  · rw [if_neg h]
    unfold VB
    rw [if_neg h]

end Go.Proofs.Ytdgikheibcmcjaa.Pure
set_option linter.unusedVariables false
set_option linter.unusedSimpArgs false
namespace Go.Proofs.Ytdgikheibcmcjaa.Pure
open Go.RowKit Go.Proofs.Ytdgikheibcmcjaa.X Go.Proofs.YtdgikheibcmcjaaV.PrintWords Go.Proofs.YtdgikheibcmcjaaV.PrintLast Go.Proofs.YtdgikheibcmcjaaV.PrintMore

theorem spec_vbytes (t n : Int) (s : ByteArray) (hm : s.size ≤ maxLen) (k : Nat) (hk : s.size < k) : spec_ValueBytes.f k t n s = some (VB t n s) := by
  unfold spec_ValueBytes.f VB
  rw [spec_ok t n s hm k hk]
  simp only [Option.bind_some]
  by_cases h : VOk t n s = true
  · rw [if_pos h, if_pos h]
    rcases vok_cases h with ⟨rfl, rfl, h3⟩ | ⟨rfl, h3, h4, h5⟩ | ⟨rfl, rfl, h3, h4⟩ | ⟨rfl, h3, h4, h5⟩
    · rfl
    · simp only [if_true]
      have e0 : Int.tdiv (n + 10000) 256 = (n + 10000) / 256 := Int.tdiv_eq_ediv_of_nonneg (by omega)
      have e2 : Int.tmod (n + 10000) 256 = (n + 10000) % 256 := Int.tmod_eq_emod_of_nonneg (by omega)
      rw [w64g (n := n + 10000) (by omega), e0, e2, w64g (n := (n + 10000) / 256) (by omega), if_pos (by simp)]
      have e1 : (n + 10000) / 256 % 256 = (n + 10000) / 256 := by omega
      have e3 : (n + 10000) % 256 % 256 = (n + 10000) % 256 := by omega
      rw [e1, e3]
      rfl
    · have e1 : (s.size : Int) % 256 = s.size := by omega
      simp only [show ((2 : Int) = 1) = False from eq_false (by decide), if_false, if_true, e1]
      rw [if_pos (by simp), if_pos (by simp; omega)]
      rfl
    · have e1 : n % 256 = n := by omega
      simp only [show ((3 : Int) = 1) = False from eq_false (by decide), show ((3 : Int) = 2) = False from eq_false (by decide), if_false, if_true, e1]
      rw [if_pos (by simp)]
      rfl
  · rw [if_neg h, if_neg h]

end Go.Proofs.Ytdgikheibcmcjaa.Pure
set_option linter.unusedVariables false
set_option linter.unusedSimpArgs false
namespace Go.Proofs.Ytdgikheibcmcjaa.Pure
open Go.RowKit Go.Proofs.Ytdgikheibcmcjaa.X Go.Proofs.YtdgikheibcmcjaaV.PrintWords Go.Proofs.YtdgikheibcmcjaaV.PrintLast Go.Proofs.YtdgikheibcmcjaaV.PrintMore

def Fin4 (t n : Int) (s : ByteArray) (l : List Int) : Int × Int × ByteArray × Int :=
  if VOk t n s = true ∧ VB t n s = l.take (VB t n s).length then (t, n, s, ((VB t n s).length : Int)) else Z4
theorem vb_nil {t n : Int} {s : ByteArray} : (VB t n s).length = 0 ↔ ¬ VOk t n s = true := by
  constructor
  · intro h hv
    unfold VB at h
    rw [if_pos hv] at h
    split at h
    · simp at h
    · split at h
      · simp at h
      · split at h <;> simp at h
  · intro h
    unfold VB
    rw [if_neg h]
    rfl
theorem fin_eq {l : List Int} (hB : Byt l) (t n : Int) (s : ByteArray) :
    (if ((VB t n s).length : Int) = 0 then (some (0, 0, (⟨#[]⟩ : ByteArray), 0)) else (if ((VB t n s).length : Int) > (l.length : Int) then (some (0, 0, (⟨#[]⟩ : ByteArray), 0)) else (if 0 ≤ ((VB t n s).length : Int) then (if ((VB t n s).length : Int) ≤ (l.length : Int) then (if (strOfNums (VB t n s)).toList = (strOfNums (l.take (((VB t n s).length : Int) : Int).toNat)).toList then (some (t, n, s, ((VB t n s).length : Int))) else (some (0, 0, (⟨#[]⟩ : ByteArray), 0))) else (none)) else (none)))) = some (Fin4 t n s l) := by
  unfold Fin4
  by_cases hv : VOk t n s = true
  · have h0 : ¬ (VB t n s).length = 0 := fun h => vb_nil.1 h hv
    rw [if_neg (by omega)]
    by_cases hl : ((VB t n s).length : Int) > (l.length : Int)
    · rw [if_pos hl, if_neg]
      · rfl
      · intro h
        have := congrArg List.length h.2
        rw [List.length_take] at this
        omega
    · rw [if_neg hl, if_pos (by omega), if_pos (by omega), Int.toNat_natCast]
      by_cases he : VB t n s = l.take (VB t n s).length
      · rw [if_pos ((str_inj vb_byte (byt_take hB _)).2 he), if_pos ⟨hv, he⟩]
      · rw [if_neg (fun h => he ((str_inj vb_byte (byt_take hB _)).1 h)), if_neg (fun h => he h.2)]
        rfl
  · have h0 := vb_nil.2 hv
    rw [if_pos (by omega), if_neg (fun h => hv h.1)]
    rfl
theorem spec_j2f {l : List Int} (hB : Byt l) (t : Int) (k : Nat) (hk : 1 ≤ k) : spec_ValueFrom.j2 (k + 1) l false t 0 E0 = some (Fin4 t 0 E0 l) := by
  rw [spec_ValueFrom.j2, if_neg (by decide), spec_vbytes t 0 E0 (by decide) k (by show 0 < k; omega)]
  simp only [Option.bind_some]
  exact fin_eq hB t 0 E0
theorem spec_j1f {l : List Int} (hB : Byt l) (t : Int) (k : Nat) (hk : 1 ≤ k) : spec_ValueFrom.j1 (k + 2) l false t 0 E0 = some (if t = 3 ∧ 1 < (l.length : Int) then Fin4 3 (rd l 1) E0 l else Fin4 t 0 E0 l) := by
  rw [spec_ValueFrom.j1, if_neg (by decide)]
  by_cases h : t = 3
  · subst h
    rw [if_pos rfl]
    by_cases hl : (l.length : Int) > 1
    · have hr := byt_rd hB 1
      rw [decide_eq_true hl, if_pos ⟨rfl, hl⟩, spec_ValueFrom.j2, if_pos rfl, if_pos hl, w64g (n := rd l 1) (by omega), spec_vbytes 3 (rd l 1) E0 (by decide) k (by show 0 < k; omega)]
      simp only [Option.bind_some]
      exact fin_eq hB 3 (rd l 1) E0
    · rw [decide_eq_false hl, if_neg (fun h => hl h.2), spec_j2f hB _ _ hk]
  · rw [if_neg h, spec_j2f hB _ _ hk, if_neg (show ¬ (t = 3 ∧ 1 < (l.length : Int)) from fun h2 => h h2.1)]
theorem txt_size {l : List Int} (hB : Byt l) (h : 2 + rd l 1 ≤ (l.length : Int)) : ((Txt l).size : Int) = rd l 1 := by
  have := byt_rd hB 1
  unfold Txt
  rw [strOfNums_size, List.length_drop, List.length_take]
  omega
theorem spec_j0f {l : List Int} (hB : Byt l) (k : Nat) (hk : 300 ≤ k) : spec_ValueFrom.j0 (k + 3) l false (rd l 0) 0 E0 = some (if rd l 0 = 2 ∧ 1 < (l.length : Int) ∧ 2 + rd l 1 ≤ (l.length : Int) then Fin4 2 0 (Txt l) l else if rd l 0 = 3 ∧ 1 < (l.length : Int) then Fin4 3 (rd l 1) E0 l else Fin4 (rd l 0) 0 E0 l) := by
  have hr := byt_rd hB 1
  rw [spec_ValueFrom.j0, if_neg (by decide)]
  by_cases h : rd l 0 = 2
  · rw [if_pos h, h]
    by_cases hl : (l.length : Int) > 1
    · rw [if_pos hl, if_pos hl, w64g (n := rd l 1) (by omega), w64g (n := 2 + rd l 1) (by omega)]
      by_cases hg : (l.length : Int) ≥ 2 + rd l 1
      · have hs := txt_size hB hg
        rw [decide_eq_true hg, if_pos ⟨rfl, hl, hg⟩, spec_ValueFrom.j1, if_pos rfl, if_pos hl, w64g (n := rd l 1) (by omega), w64g (n := 2 + rd l 1) (by omega), if_pos (by omega), if_pos hg]
        show ((spec_ValueBytes.f (k + 1) 2 0 (Txt l)).bind _) = _
        rw [spec_vbytes 2 0 (Txt l) (by simp only [maxLen]; omega) (k + 1) (by omega)]
        simp only [Option.bind_some]
        exact fin_eq hB 2 0 (Txt l)
      · rw [decide_eq_false hg, if_neg (fun h => hg h.2.2), spec_j1f hB _ k (by omega)]
    · rw [if_neg hl, if_neg (fun h => hl h.2.1), spec_j1f hB _ k (by omega)]
  · rw [if_neg h, if_neg (fun h2 => h h2.1), spec_j1f hB _ k (by omega)]
theorem list1 {l : List Int} (h : ¬ (l.length : Int) = 0) : l.take 1 = [rd l 0] := by
  cases l with
  | nil => exact absurd rfl h
  | cons a m => rfl
theorem list2 {l : List Int} (h : 1 < (l.length : Int)) : l.take 2 = [rd l 0, rd l 1] := by
  match l, h with
  | a :: b :: m, _ => rfl
  | [a], h => simp at h
  | [], h => simp at h
theorem list3 {l : List Int} (h : 2 < (l.length : Int)) : l.take 3 = [rd l 0, rd l 1, rd l 2] := by
  match l, h with
  | a :: b :: c :: m, _ => rfl
  | [a, b], h => simp at h
  | [a], h => simp at h
  | [], h => simp at h
theorem fin1 {l : List Int} (hB : Byt l) (h0 : rd l 0 = 1) (h : 2 < (l.length : Int)) : Fin4 1 (256 * rd l 1 + rd l 2 - 10000) E0 l = Ok4 1 (256 * rd l 1 + rd l 2 - 10000) E0 3 := by
  have h1 := byt_rd hB 1
  have h2 := byt_rd hB 2
  unfold Fin4 Ok4
  by_cases hv : VOk 1 (256 * rd l 1 + rd l 2 - 10000) E0 = true
  · have e : VB 1 (256 * rd l 1 + rd l 2 - 10000) E0 = [1, rd l 1, rd l 2] := by
      unfold VB
      rw [if_pos hv, if_pos rfl, show (256 * rd l 1 + rd l 2 - 10000 + 10000) / 256 = rd l 1 by omega, show (256 * rd l 1 + rd l 2 - 10000 + 10000) % 256 = rd l 2 by omega]
    rw [e, if_pos ⟨hv, by show _ = l.take 3; rw [list3 h, h0]⟩, if_pos hv]
    rfl
  · rw [if_neg (fun h => hv h.1), if_neg hv]
theorem fin2 {l : List Int} (hB : Byt l) (h0 : rd l 0 = 2) (h : 1 < (l.length : Int)) (hg : 2 + rd l 1 ≤ (l.length : Int)) : Fin4 2 0 (Txt l) l = Ok4 2 0 (Txt l) (2 + rd l 1) := by
  have h1 := byt_rd hB 1
  have hs := txt_size hB hg
  unfold Fin4 Ok4
  by_cases hv : VOk 2 0 (Txt l) = true
  · have e : VB 2 0 (Txt l) = l.take (2 + rd l 1).toNat := by
      unfold VB
      rw [if_pos hv, if_neg (by decide), if_pos rfl, hs]
      unfold Txt
      rw [bytesOf_str (byt_drop (byt_take hB _) _)]
      have h3 : (l.take (2 + rd l 1).toNat).take 2 = [2, rd l 1] := by
        rw [List.take_take, show min 2 (2 + rd l 1).toNat = 2 by omega, list2 h, h0]
      calc (2 : Int) :: rd l 1 :: (l.take (2 + rd l 1).toNat).drop 2 = (l.take (2 + rd l 1).toNat).take 2 ++ (l.take (2 + rd l 1).toNat).drop 2 := by rw [h3]; rfl
        _ = _ := List.take_append_drop _ _
    have hlen : (VB 2 0 (Txt l)).length = (2 + rd l 1).toNat := by rw [e, List.length_take]; omega
    rw [if_pos ⟨hv, by rw [hlen]; exact e⟩, if_pos hv, hlen]
    congr 3
    omega
  · rw [if_neg (fun h => hv h.1), if_neg hv]
theorem fin3 {l : List Int} (hB : Byt l) (h0 : rd l 0 = 3) (h : 1 < (l.length : Int)) : Fin4 3 (rd l 1) E0 l = Ok4 3 (rd l 1) E0 2 := by
  unfold Fin4 Ok4
  by_cases hv : VOk 3 (rd l 1) E0 = true
  · have e : VB 3 (rd l 1) E0 = [3, rd l 1] := by
      unfold VB
      rw [if_pos hv, if_neg (by decide), if_neg (by decide), if_pos rfl]
    rw [e, if_pos ⟨hv, by show _ = l.take 2; rw [list2 h, h0]⟩, if_pos hv]
    rfl
  · rw [if_neg (fun h => hv h.1), if_neg hv]
theorem finx {l : List Int} (hB : Byt l) (hz : ¬ (l.length : Int) = 0) (h1 : ¬ (rd l 0 = 1 ∧ 2 < (l.length : Int))) (h2 : ¬ (rd l 0 = 2 ∧ 1 < (l.length : Int) ∧ 2 + rd l 1 ≤ (l.length : Int))) (h3 : ¬ (rd l 0 = 3 ∧ 1 < (l.length : Int))) :
    Fin4 (rd l 0) 0 E0 l = if rd l 0 = 0 then (0, 0, E0, 1) else Z4 := by
  have hr := byt_rd hB 1
  unfold Fin4
  by_cases t0 : rd l 0 = 0
  · have e : VB 0 0 E0 = [0] := by decide
    rw [t0, e, if_pos ⟨vok_zero, by show _ = l.take 1; rw [list1 hz, t0]⟩]
    rfl
  rw [if_neg t0, if_neg]
  rintro ⟨hv, he⟩
  have hk := vok_kind hv
  obtain t1 | t2 | t3 : rd l 0 = 1 ∨ rd l 0 = 2 ∨ rd l 0 = 3 := by omega
  · have e : VB 1 0 E0 = [1, 39, 16] := by decide
    rw [t1, e] at he
    have := congrArg List.length he
    rw [List.length_take] at this
    simp only [List.length_cons, List.length_nil] at this
    omega
  · have e : VB 2 0 E0 = [2, 0] := by decide
    rw [t2, e] at he
    have hl := congrArg List.length he
    rw [List.length_take] at hl
    simp only [List.length_cons, List.length_nil] at hl
    have he : [2, 0] = l.take 2 := he
    rw [list2 (by omega), t2] at he
    have : (0 : Int) = rd l 1 := by simpa using he
    omega
  · have e : VB 3 0 E0 = [3, 0] := by decide
    rw [t3, e] at he
    have := congrArg List.length he
    rw [List.length_take] at this
    simp only [List.length_cons, List.length_nil] at this
    omega
theorem spec_vf {l : List Int} (hB : Byt l) (k : Nat) (hk : 400 ≤ k) : spec_ValueFrom.f k l = some (VF l) := by
  have hr0 := byt_rd hB 0
  have hr1 := byt_rd hB 1
  have hr2 := byt_rd hB 2
  obtain ⟨k, rfl⟩ : ∃ m, k = m + 3 := ⟨k - 3, by omega⟩
  unfold spec_ValueFrom.f VF
  by_cases hz : (l.length : Int) = 0
  · rw [if_pos hz, if_pos hz]
    rfl
  rw [if_neg hz, if_neg hz, if_pos (by omega), w64g (n := rd l 0) (by omega)]
  have main : ¬ (rd l 0 = 1 ∧ 2 < (l.length : Int)) → spec_ValueFrom.j0 (k + 3) l false (rd l 0) 0 E0 = some (VF0 l) := by
    intro h1
    rw [spec_j0f hB k (by omega)]
    unfold VF0
    by_cases h2 : rd l 0 = 2 ∧ 1 < (l.length : Int) ∧ 2 + rd l 1 ≤ (l.length : Int)
    · rw [if_pos h2, if_pos h2, fin2 hB h2.1 h2.2.1 h2.2.2]
    · rw [if_neg h2, if_neg h2]
      by_cases h3 : rd l 0 = 3 ∧ 1 < (l.length : Int)
      · rw [if_pos h3, if_pos h3, fin3 hB h3.1 h3.2]
      · rw [if_neg h3, if_neg h3, finx hB hz h1 h2 h3]
  by_cases h1 : rd l 0 = 1
  · rw [if_pos h1]
    by_cases hl : (l.length : Int) > 2
    · rw [decide_eq_true hl, if_pos ⟨h1, hl⟩, spec_ValueFrom.j0, if_pos rfl, if_pos (by omega), if_pos hl, w64g (n := rd l 1) (by omega), w64g (n := rd l 2) (by omega), w64g (n := 256 * rd l 1) (by omega), w64g (n := 256 * rd l 1 + rd l 2) (by omega), w64g (n := 256 * rd l 1 + rd l 2 - 10000) (by omega), h1]
      show ((spec_ValueBytes.f (k + 2) 1 (256 * rd l 1 + rd l 2 - 10000) E0).bind _) = _
      rw [spec_vbytes 1 (256 * rd l 1 + rd l 2 - 10000) E0 (by decide) (k + 2) (by show 0 < k + 2; omega)]
      simp only [Option.bind_some]
      rw [← fin1 hB h1 hl]
      exact fin_eq hB 1 (256 * rd l 1 + rd l 2 - 10000) E0
    · rw [decide_eq_false hl, if_neg (fun h => hl h.2)]
      exact main (fun h => hl h.2)
  · rw [if_neg h1, if_neg (fun h => h1 h.1)]
    exact main (fun h => h1 h.1)

end Go.Proofs.Ytdgikheibcmcjaa.Pure
set_option linter.unusedVariables false
set_option linter.unusedSimpArgs false
namespace Go.Proofs.Ytdgikheibcmcjaa.Pure
open Go.RowKit Go.Proofs.Ytdgikheibcmcjaa.X Go.Proofs.YtdgikheibcmcjaaV.PrintWords Go.Proofs.YtdgikheibcmcjaaV.PrintLast Go.Proofs.YtdgikheibcmcjaaV.PrintMore

theorem toByteS_eq (l : List Int) (hl : l.length ≤ 1000000000) : ∀ k, l.length + 1 ≤ k → laws_toByteS.f k l = some l := by
  intro k hk
  unfold laws_toByteS.f
  rw [if_pos (by omega), if_pos (by omega)]
  refine copy_all (fun k x i => laws_toByteS.l0 k l x i) l _ (by rw [List.length_replicate]; omega) 0 ?_ ?_ k hk
  · intro k x j hj hx
    show laws_toByteS.l0 (k + 1) l x j = _
    simp only [laws_toByteS.l0]
    rw [if_pos (by omega), if_pos (by omega), if_pos (by omega), show wrap64 ((j : Int) + 1) = ((j + 1 : Nat) : Int) by rw [w64g (by omega)]; omega]
    rfl
  · intro k x hx
    show laws_toByteS.l0 (k + 1) l x l.length = _
    simp only [laws_toByteS.l0]
    rw [if_neg (by omega)]

end Go.Proofs.Ytdgikheibcmcjaa.Pure
set_option linter.unusedVariables false
set_option linter.unusedSimpArgs false
namespace Go.Proofs.Ytdgikheibcmcjaa.Pure
open Go.RowKit Go.Proofs.Ytdgikheibcmcjaa.X Go.Proofs.YtdgikheibcmcjaaV.PrintWords Go.Proofs.YtdgikheibcmcjaaV.PrintLast Go.Proofs.YtdgikheibcmcjaaV.PrintMore

theorem eqB_self (l : List Int) (hl : l.length ≤ 10000000) : ∀ k, l.length + 1 ≤ k → laws_eqByteS.f k l l = some true := by
  intro k hk
  unfold laws_eqByteS.f
  rw [if_pos rfl]
  refine go_all (fun k i => laws_eqByteS.l0 k l l i) l.length 0 1 true ?_ ?_ k (by omega)
  · intro k j _ hj
    show laws_eqByteS.l0 (k + 1) l l (j : Int) = _
    rw [laws_eqByteS.l0, if_pos (by omega), if_pos (by omega), if_pos (by omega), if_pos rfl, show wrap64 ((j : Int) + 1) = ((j + 1 : Nat) : Int) by rw [w64g (by omega)]; omega]
  · intro k _
    show laws_eqByteS.l0 (k + 1) l l (l.length : Int) = _
    rw [laws_eqByteS.l0, if_neg (by omega)]
def marksB (v : Int) (n : Nat) : List Int := (List.range n).map fun (i : Nat) => (v + (i : Int)) % 256
theorem marksB_len (v : Int) (n : Nat) : (marksB v n).length = n := by unfold marksB; rw [List.length_map, List.length_range]
theorem marksB_at (v : Int) (n i : Nat) (hi : i < n) (d : Int) : (marksB v n).getD i d = (v + (i : Int)) % 256 := by
  unfold marksB
  rw [List.getD_eq_getElem?_getD, List.getElem?_map, List.getElem?_range hi]
  rfl
theorem markB_ok (l : List Int) (hl : l.length ≤ 10000000) (v : Int) (h0 : 0 ≤ v) (h1 : v ≤ 100000000) : ∀ k, l.length + 1 ≤ k → laws_markByteS.f k l v = some (v + l.length, marksB v l.length) := by
  have main : ∀ e i, i + e = l.length → ∀ k, e + 1 ≤ k → laws_markByteS.l0 k ((marksB v l.length).take i ++ l.drop i) (v + i) (i : Int) = some (v + l.length, marksB v l.length) := by
    intro e
    induction e with
    | zero =>
      intro i hi k hk
      have hi : i = l.length := by omega
      subst hi
      obtain ⟨k, rfl⟩ : ∃ m, k = m + 1 := ⟨k - 1, by omega⟩
      have hz : ((marksB v l.length).take l.length ++ l.drop l.length) = marksB v l.length := by
        rw [List.drop_of_length_le (Nat.le_refl _), List.append_nil, List.take_of_length_le (by rw [marksB_len]; omega)]
      rw [hz, laws_markByteS.l0, if_neg (by rw [marksB_len]; omega)]
    | succ e ih =>
      intro i hi k hk
      obtain ⟨k, rfl⟩ : ∃ m, k = m + 1 := ⟨k - 1, by omega⟩
      have hi' : i < l.length := by omega
      have hi2 : i < (marksB v l.length).length := by rw [marksB_len]; exact hi'
      have hlt : ((marksB v l.length).take i).length = i := by rw [List.length_take, marksB_len]; omega
      have hlen : ((marksB v l.length).take i ++ l.drop i).length = l.length := by
        rw [List.length_append, hlt, List.length_drop]
        omega
      rw [laws_markByteS.l0, if_pos (by omega), if_pos (by omega), Int.toNat_natCast, w64g (n := v + (i : Int) + 1) (by omega), show wrap64 ((i : Int) + 1) = ((i + 1 : Nat) : Int) by rw [w64g (by omega)]; omega, List.set_append_right _ _ (by omega), hlt, Nat.sub_self, List.drop_eq_getElem_cons hi', List.set_cons_zero]
      have := ih (i + 1) (by omega) k (by omega)
      have em : (marksB v l.length)[i] = (v + (i : Int)) % 256 := by
        have h1 := marksB_at v l.length i hi' 0
        rw [List.getD_eq_getElem?_getD, List.getElem?_eq_getElem hi2] at h1
        exact h1
      rw [List.take_succ_eq_append_getElem hi2, List.append_assoc, em] at this
      rw [show v + (i : Int) + 1 = v + ((i + 1 : Nat) : Int) by omega]
      exact this
  intro k hk
  have := main l.length 0 (by omega) k hk
  rw [List.take_zero, List.drop_zero, List.nil_append] at this
  unfold laws_markByteS.f
  simpa using this
theorem heldB_ok (n : Nat) (hn : n ≤ 10000000) (v : Int) (h0 : 0 ≤ v) (h1 : v ≤ 100000000) : ∀ k, n + 1 ≤ k → laws_heldByteS.f k (marksB v n) v = some (v + n) := by
  intro k hk
  have := go_all (fun k i => laws_heldByteS.l0 k (marksB v n) (v + i) i) n 0 1 (v + n) ?_ ?_ k (by omega)
  · unfold laws_heldByteS.f
    simpa using this
  · intro k j _ hj
    show laws_heldByteS.l0 (k + 1) (marksB v n) (v + (j : Int)) (j : Int) = _
    have hr : rd (marksB v n) (j : Int) = (v + (j : Int)) % 256 := marksB_at v n j hj _
    rw [laws_heldByteS.l0, if_pos (by rw [marksB_len]; omega), if_pos (by omega), hr, if_pos rfl, w64g (n := v + (j : Int) + 1) (by omega), show wrap64 ((j : Int) + 1) = ((j + 1 : Nat) : Int) by rw [w64g (by omega)]; omega, show v + (j : Int) + 1 = v + ((j + 1 : Nat) : Int) by omega]
  · intro k _
    show laws_heldByteS.l0 (k + 1) (marksB v n) (v + (n : Int)) (n : Int) = _
    rw [laws_heldByteS.l0, if_neg (by rw [marksB_len]; omega)]

end Go.Proofs.Ytdgikheibcmcjaa.Pure
set_option linter.unusedVariables false
set_option linter.unusedSimpArgs false
namespace Go.Proofs.Ytdgikheibcmcjaa.Pure
open Go.RowKit Go.Proofs.Ytdgikheibcmcjaa.X Go.Proofs.YtdgikheibcmcjaaV.PrintWords Go.Proofs.YtdgikheibcmcjaaV.PrintLast Go.Proofs.YtdgikheibcmcjaaV.PrintMore

theorem FnExactValueFrom : laws_FnExactValueFrom.Pure := by
  intro l ⟨_, hw⟩
  refine ⟨l.length + 500, ?_⟩
  unfold laws_FnExactValueFrom.f
  by_cases hg : (l.length : Int) > 1048576
  · rw [if_pos hg]
  rw [if_neg hg]
  have hB : Byt l := fun x hx => by
    have := hw x hx
    simp [Lit.wf, IntKind.min, IntKind.max, IntKind.signed, IntKind.bits] at this
    omega
  rw [toByteS_eq l (by omega) _ (by omega)]
  simp only [Option.bind_some]
  rw [spec_vf hB _ (by omega), impl_vf hB _ (by omega)]
  simp only [Option.bind_some]
  have he : ∀ t n s, laws_eqValue.f t n s t n s = some true := fun t n s => by simp [laws_eqValue.f]
  rw [he]
  simp only [Option.bind_some, if_true]
  have hne : ((VF l).2.2.2 != (VF l).2.2.2) = false := by simp
  rw [hne]
  show laws_FnExactValueFrom.j0 (l.length + 499 + 1) l l false = some true
  rw [laws_FnExactValueFrom.j0, if_neg (by decide), toByteS_eq l (by omega) _ (by omega)]
  simp only [Option.bind_some]
  rw [eqB_self l (by omega) _ (by omega)]
  rfl

end Go.Proofs.Ytdgikheibcmcjaa.Pure
