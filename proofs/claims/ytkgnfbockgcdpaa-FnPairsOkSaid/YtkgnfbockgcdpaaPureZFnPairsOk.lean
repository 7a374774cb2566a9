/- Pairs are pairs: FnPairsOk returns true for every list of bytes; no condition. -/
import Derived.Test.YtkgnfbockgcdpaaZFnPairsOk2
import Derived.Test.YtkgnfbockgcdpaaZFnPairsOk3
import Derived.Test.YtkgnfbockgcdpaaZFnPairsOk5
import Derived.Test.YtkgnfbockgcdpaaZFnPairsOk6
import Derived.Test.YtkgnfbockgcdpaaZFnPairsOk7
import Derived.Test.YtkgnfbockgcdpaaZFnPairsOk8
import Derived.Test.YtkgnfbockgcdpaaZFnPairsOk9
import Derived.Test.YtkgnfbockgcdpaaZFnPairsOk10
import Derived.Test.YtkgnfbockgcdpaaZFnPairsOk11
import Derived.Test.YtkgnfbockgcdpaaZFnPairsOk12
import Derived.Test.YtkgnfbockgcdpaaZFnPairsOk13
import Derived.Test.YtkgnfbockgcdpaaZFnPairsOk14
import Derived.Test.YtkgnfbockgcdpaaZFnPairsOk15
import Derived.Test.YtkgnfbockgcdpaaZFnPairsOk16
import Derived.Test.YtkgnfbockgcdpaaZFnPairsOk17
import Derived.Test.YtkgnfbockgcdpaaZFnPairsOk18
import Derived.Test.YtkgnfbockgcdpaaZFnPairsOk19
import Derived.Test.YtkgnfbockgcdpaaZFnPairsOk20
set_option linter.unusedVariables false
set_option linter.unusedSimpArgs false
namespace Go.Proofs.Ytkgnfbockgcdpaa.Pure
open Go.RowKit Go.Proofs.Ytkgnfbockgcdpaa.X Go.Proofs.YtkgnfbockgcdpaaV.PrintWords Go.Proofs.YtkgnfbockgcdpaaV.PrintLast Go.Proofs.YtkgnfbockgcdpaaV.PrintMore

theorem w64g {n : Int} (h : -9223372036854775808 ≤ n ∧ n ≤ 9223372036854775807) : wrap64 n = n := by unfold wrap64; omega
theorem scan_all (F : Nat → Int → Option Bool) (n K : Nat) (G : Nat → Prop) (fin : Bool)
    (h1 : ∀ k j, K ≤ k → j < n → G j → F (k + 1) (j : Int) = F k ((j + 1 : Nat) : Int))
    (h2 : ∀ k j, K ≤ k → j < n → ¬ G j → F (k + 1) (j : Int) = some false)
    (h3 : ∀ k, K ≤ k → F (k + 1) (n : Int) = some fin) :
    ∃ b, (∀ k, n + 1 + K ≤ k → F k 0 = some b) ∧ (b = true ↔ ((∀ j, j < n → G j) ∧ fin = true)) := by
  have main : ∀ d i, i + d = n → ∃ b, (∀ k, d + 1 + K ≤ k → F k (i : Int) = some b) ∧ (b = true ↔ ((∀ j, i ≤ j → j < n → G j) ∧ fin = true)) := by
    intro d
    induction d with
    | zero =>
      intro i hi
      have hi : i = n := by omega
      subst hi
      refine ⟨fin, fun k hk => ?_, ⟨fun h => ⟨fun j h1 h2 => by omega, h⟩, fun h => h.2⟩⟩
      obtain ⟨k, rfl⟩ : ∃ m, k = m + 1 := ⟨k - 1, by omega⟩
      exact h3 k (by omega)
    | succ d ih =>
      intro i hi
      by_cases g : G i
      · obtain ⟨b, hb, hb'⟩ := ih (i + 1) (by omega)
        refine ⟨b, fun k hk => ?_, ?_⟩
        · obtain ⟨k, rfl⟩ : ∃ m, k = m + 1 := ⟨k - 1, by omega⟩
          rw [h1 k i (by omega) (by omega) g]
          exact hb k (by omega)
        · rw [hb']
          constructor
          · intro h
            refine ⟨fun j hj hj' => ?_, h.2⟩
            by_cases e : j = i
            · rw [e]; exact g
            · exact h.1 j (by omega) hj'
          · intro h
            exact ⟨fun j hj hj' => h.1 j (by omega) hj', h.2⟩
      · refine ⟨false, fun k hk => ?_, ?_⟩
        · obtain ⟨k, rfl⟩ : ∃ m, k = m + 1 := ⟨k - 1, by omega⟩
          exact h2 k i (by omega) (by omega) g
        · constructor
          · intro h
            cases h
          · intro h
            exact absurd (h.1 i (Nat.le_refl _) (by omega)) g
  obtain ⟨b, hb, hb'⟩ := main n 0 (by omega)
  refine ⟨b, hb, ?_⟩
  rw [hb']
  constructor
  · intro h; exact ⟨fun j hj => h.1 j (by omega) hj, h.2⟩
  · intro h; exact ⟨fun j _ hj => h.1 j hj, h.2⟩
theorem go_all {α : Type} (F : Nat → Int → Option α) (n K c : Nat) (r : α)
    (h1 : ∀ k j, K ≤ k → j < n → F (k + c) (j : Int) = F k ((j + 1 : Nat) : Int))
    (h3 : ∀ k, K ≤ k → F (k + c) (n : Int) = some r) : ∀ k, K + c * (n + 1) ≤ k → F k 0 = some r := by
  have main : ∀ d i, i + d = n → ∀ k, K + c * (d + 1) ≤ k → F k (i : Int) = some r := by
    intro d
    induction d with
    | zero =>
      intro i hi k hk
      have hi : i = n := by omega
      subst hi
      obtain ⟨k, rfl⟩ : ∃ m, k = m + c := ⟨k - c, by omega⟩
      exact h3 k (by omega)
    | succ d ih =>
      intro i hi k hk
      have e : c * (d + 1 + 1) = c * (d + 1) + c := Nat.mul_succ _ _
      obtain ⟨k, rfl⟩ : ∃ m, k = m + c := ⟨k - c, by omega⟩
      rw [h1 k i (by omega) (by omega)]
      exact ih (i + 1) (by omega) k (by omega)
  exact main n 0 (by omega)
theorem copy_all {β : Type} (F : Nat → List β → Int → Option (List β)) (L : List β) (x0 : List β) (hx : x0.length = L.length) (d : β)
    (h1 : ∀ k (x : List β) j, j < L.length → x.length = L.length → F (k + 1) x (j : Int) = F k (x.set j (L.getD j d)) ((j + 1 : Nat) : Int))
    (h3 : ∀ k x, x.length = L.length → F (k + 1) x (L.length : Int) = some x) : ∀ k, L.length + 1 ≤ k → F k x0 0 = some L := by
  have main : ∀ e i, i + e = L.length → ∀ k, e + 1 ≤ k → F k (L.take i ++ x0.drop i) (i : Int) = some L := by
    intro e
    induction e with
    | zero =>
      intro i hi k hk
      have hi : i = L.length := by omega
      subst hi
      obtain ⟨k, rfl⟩ : ∃ m, k = m + 1 := ⟨k - 1, by omega⟩
      rw [h3 k _ (by simp [hx]), List.take_length, List.drop_of_length_le (by omega), List.append_nil]
    | succ e ih =>
      intro i hi k hk
      obtain ⟨k, rfl⟩ : ∃ m, k = m + 1 := ⟨k - 1, by omega⟩
      have hlen : (L.take i ++ x0.drop i).length = L.length := by
        rw [List.length_append, List.length_take, List.length_drop]
        omega
      rw [h1 k _ i (by omega) hlen]
      have hi' : i < L.length := by omega
      have hi2 : i < x0.length := by omega
      have e2 : (L.take i ++ x0.drop i).set i (L.getD i d) = L.take (i + 1) ++ x0.drop (i + 1) := by
        rw [List.set_append_right _ _ (by rw [List.length_take]; omega), List.length_take, show i - min i L.length = 0 by omega, List.drop_eq_getElem_cons hi2, List.set_cons_zero]
        rw [List.take_succ_eq_append_getElem hi', List.append_assoc]
        congr 1
        rw [List.getD_eq_getElem?_getD, List.getElem?_eq_getElem hi']
        rfl
      rw [e2]
      exact ih (i + 1) (by omega) k (by omega)
  intro k hk
  have := main L.length 0 (by omega) k hk
  simpa using this
theorem chain_iff {α : Type} (d : α) (Q : α → Prop) (R : α → α → Prop) (tr : ∀ a b c, R a b → R b c → R a c) (l : List α) :
    (∀ j, j < l.length → Q (l.getD j d) ∧ (0 < j → R (l.getD (j - 1) d) (l.getD j d))) ↔ ((∀ x ∈ l, Q x) ∧ l.Pairwise R) := by
  have gd : ∀ j (h : j < l.length), l.getD j d = l[j] := by
    intro j h
    rw [List.getD_eq_getElem?_getD, List.getElem?_eq_getElem h]
    rfl
  constructor
  · intro h
    refine ⟨fun x hx => ?_, ?_⟩
    · obtain ⟨j, hj, rfl⟩ := List.getElem_of_mem hx
      rw [← gd j hj]
      exact (h j hj).1
    · rw [List.pairwise_iff_getElem]
      have main : ∀ e i (hi : i < l.length) (hj : i + e + 1 < l.length), R l[i] l[i + e + 1] := by
        intro e
        induction e with
        | zero =>
          intro i hi hj
          have := (h (i + 0 + 1) hj).2 (by omega)
          rw [gd _ (show i + 0 + 1 - 1 < l.length by omega), gd _ hj] at this
          exact this
        | succ e ih =>
          intro i hi hj
          have h1 := ih i hi (by omega)
          have := (h (i + (e + 1) + 1) hj).2 (by omega)
          rw [gd _ (show i + (e + 1) + 1 - 1 < l.length by omega), gd _ hj] at this
          exact tr _ _ _ h1 this
      intro i j hi hj hij
      obtain ⟨e, rfl⟩ : ∃ e, j = i + e + 1 := ⟨j - i - 1, by omega⟩
      exact main e i hi hj
  · intro h j hj
    refine ⟨?_, fun h0 => ?_⟩
    · rw [gd j hj]
      exact h.1 _ (List.getElem_mem hj)
    · rw [gd j hj, gd (j - 1) (by omega)]
      exact List.pairwise_iff_getElem.1 h.2 (j - 1) j (by omega) hj (by omega)
/-- What holds of a chain holds of the chain without one of its elements. -/
theorem chain_less {α : Type} {Q : α → Prop} {R : α → α → Prop} {l : List α} (h : (∀ x ∈ l, Q x) ∧ l.Pairwise R) (a b : Nat) (hab : a ≤ b) :
    (∀ x ∈ l.take a ++ l.drop b, Q x) ∧ (l.take a ++ l.drop b).Pairwise R := by
  have sub : (l.take a ++ l.drop b).Sublist l := by
    have h1 : (l.take a ++ l.drop b).Sublist (l.take a ++ l.drop a) := by
      apply List.Sublist.append (List.Sublist.refl _)
      rw [show b = a + (b - a) by omega, ← List.drop_drop]
      exact List.drop_sublist _ _
    rwa [List.take_append_drop] at h1
  exact ⟨fun x hx => h.1 x (sub.subset hx), h.2.sublist sub⟩
theorem go_all2 {α : Type} (F : Nat → Int → Option α) (n K : Nat) (r : α)
    (h1 : ∀ k j, K ≤ k → j < n → F (k + 1 + 1) (j : Int) = F k ((j + 1 : Nat) : Int))
    (h3 : ∀ k, K ≤ k → F (k + 1 + 1) (n : Int) = some r) : ∀ k, K + 2 * (n + 1) ≤ k → F k 0 = some r :=
  go_all F n K 2 r h1 h3
theorem any_ok {α : Type} (F : Nat → Int → Option α) (n K : Nat)
    (h1 : ∀ j, j < n → (∃ r, ∀ k, K ≤ k → F (k + 1) (j : Int) = some r) ∨ (∀ k, K ≤ k → F (k + 1) (j : Int) = F k ((j + 1 : Nat) : Int)))
    (h3 : ∃ r, ∀ k, K ≤ k → F (k + 1) (n : Int) = some r) : ∃ r, ∀ k, n + 1 + K ≤ k → F k 0 = some r := by
  have main : ∀ d i, i + d = n → ∃ r, ∀ k, d + 1 + K ≤ k → F k (i : Int) = some r := by
    intro d
    induction d with
    | zero =>
      intro i hi
      have hi : i = n := by omega
      subst hi
      obtain ⟨r, hr⟩ := h3
      refine ⟨r, fun k hk => ?_⟩
      obtain ⟨k, rfl⟩ : ∃ m, k = m + 1 := ⟨k - 1, by omega⟩
      exact hr k (by omega)
    | succ d ih =>
      intro i hi
      rcases h1 i (by omega) with ⟨r, hr⟩ | h
      · refine ⟨r, fun k hk => ?_⟩
        obtain ⟨k, rfl⟩ : ∃ m, k = m + 1 := ⟨k - 1, by omega⟩
        exact hr k (by omega)
      · obtain ⟨r, hr⟩ := ih (i + 1) (by omega)
        refine ⟨r, fun k hk => ?_⟩
        obtain ⟨k, rfl⟩ : ∃ m, k = m + 1 := ⟨k - 1, by omega⟩
        rw [h k (by omega)]
        exact hr k (by omega)
  exact main n 0 (by omega)
theorem between_eq (a lo hi : Int) : impl_between.f a lo hi = some (decide (lo ≤ a ∧ a ≤ hi)) := by
  unfold impl_between.f
  by_cases h : a ≥ lo
  · rw [if_pos h]
    by_cases g : a ≤ hi
    · rw [decide_eq_true g, decide_eq_true ⟨h, g⟩]
    · rw [decide_eq_false g, decide_eq_false (fun h' => g h'.2)]
  · rw [if_neg h, decide_eq_false (fun h' => h h'.1)]
theorem l1In_eq (a lo hi : Int) : spec_l1In.f a lo hi = some (decide (lo ≤ a ∧ a ≤ hi)) := by
  unfold spec_l1In.f
  by_cases h : a ≥ lo
  · rw [if_pos h]
    by_cases g : a ≤ hi
    · rw [decide_eq_true g, decide_eq_true ⟨h, g⟩]
    · rw [decide_eq_false g, decide_eq_false (fun h' => g h'.2)]
  · rw [if_neg h, decide_eq_false (fun h' => h h'.1)]
theorem w64 {n : Int} (h : -9223372036854775808 ≤ n ∧ n ≤ 9223372036854775807) : wrap64 n = n := by unfold wrap64; omega
theorem xor_range (a b : Int) (ha : 0 ≤ a) (ha2 : a < 4294967296) (hb : 0 ≤ b) (hb2 : b < 4294967296) : 0 ≤ Go.bits .xor .i64 a b ∧ Go.bits .xor .i64 a b < 4294967296 := by
  obtain ⟨x, rfl⟩ := Int.eq_ofNat_of_zero_le ha
  obtain ⟨y, rfl⟩ := Int.eq_ofNat_of_zero_le hb
  have hx : x < 2 ^ 32 := by omega
  have hy : y < 2 ^ 32 := by omega
  have h1 : x % 2 ^ IntKind.i64.bits = x := Nat.mod_eq_of_lt (Nat.lt_of_lt_of_le hx (by decide))
  have h2 : y % 2 ^ IntKind.i64.bits = y := Nat.mod_eq_of_lt (Nat.lt_of_lt_of_le hy (by decide))
  have hz : x ^^^ y < 2 ^ 32 := Nat.xor_lt_two_pow hx hy
  have e : Go.bits .xor .i64 (x : Int) (y : Int) = ((x ^^^ y : Nat) : Int) := by
    simp only [Go.bits, BitVec.ofInt_natCast, BitVec.toNat_xor, BitVec.toNat_ofNat, h1, h2]
    rw [IntKind.wrap_i64]
    omega
  rw [e]
  omega
/-- At most 2000 bytes. -/
def Bytes (s : List Int) : Prop := s.length ≤ 2000 ∧ ∀ x ∈ s, 0 ≤ x ∧ x ≤ 255
theorem rd_byte {s : List Int} (hs : Bytes s) (i : Int) : 0 ≤ rd s i ∧ rd s i ≤ 255 := by
  unfold rd
  rw [List.getD_eq_getElem?_getD]
  cases h : s[i.toNat]? with
  | none => simp
  | some x => exact hs.2 x (List.mem_of_getElem? h)
theorem tmod_range {a b : Int} (ha : 0 ≤ a) (hb : 0 < b) : 0 ≤ Int.tmod a b ∧ Int.tmod a b < b := by
  rw [Int.tmod_eq_emod_of_nonneg ha]
  exact ⟨Int.emod_nonneg a (by omega), Int.emod_lt_of_pos a hb⟩
theorem pick_ok {s : List Int} (hs : Bytes s) (p n : Int) (hp : 0 ≤ p) (hp2 : p ≤ 1000000) (hn2 : n ≤ 1000000) :
    ∃ r, (∀ k, 1 ≤ k → spec_l20Rd_pick.f k s p n = some (r, p + 1)) ∧ 0 ≤ r ∧ (1 ≤ n → r < n) ∧ (n < 1 → r = 0) := by
  have e1 : wrap64 (p + 1) = p + 1 := w64 (by omega)
  have e2 : wrap64 (p + 1 - 1) = p := by rw [w64 (by omega)]; omega
  by_cases hn : n < 1
  · refine ⟨0, fun k hk => ?_, Int.le_refl _, fun h => by omega, fun _ => rfl⟩
    obtain ⟨k, rfl⟩ : ∃ m, k = m + 1 := ⟨k - 1, by omega⟩
    unfold spec_l20Rd_pick.f
    rw [if_pos hn, e1]
    simp only [spec_l20Rd_pick.j0]
    rw [if_pos (by decide)]
  by_cases hl : (s.length : Int) = 0
  · refine ⟨0, fun k hk => ?_, Int.le_refl _, fun h => by omega, fun _ => rfl⟩
    obtain ⟨k, rfl⟩ : ∃ m, k = m + 1 := ⟨k - 1, by omega⟩
    unfold spec_l20Rd_pick.f
    rw [if_neg hn, e1, beq_iff_eq.2 hl]
    simp only [spec_l20Rd_pick.j0]
    rw [if_pos (by decide)]
  have hl1 : ((s.length : Int) == 0) = false := by rw [beq_eq_false_iff_ne]; exact hl
  have hl2 : 0 < (s.length : Int) := by omega
  by_cases hlt : p < (s.length : Int)
  · have hr := rd_byte hs p
    have e3 : wrap64 (rd s p) = rd s p := w64 (by omega)
    have ht := tmod_range hr.1 (show (0 : Int) < n by omega)
    refine ⟨Int.tmod (rd s p) n, fun k hk => ?_, ht.1, fun _ => ht.2, fun h => by omega⟩
    obtain ⟨k, rfl⟩ : ∃ m, k = m + 1 := ⟨k - 1, by omega⟩
    unfold spec_l20Rd_pick.f
    rw [if_neg hn, e1, hl1]
    simp only [spec_l20Rd_pick.j0]
    rw [if_neg (by decide), e2, if_pos hlt, if_pos hp, if_neg (by omega), e3]
  · have hm1 := tmod_range hp hl2
    have e4 : wrap64 (wrap64 (p * 7) + 3) = p * 7 + 3 := by rw [w64 (n := p * 7) (by omega)]; exact w64 (by omega)
    have hm2 := tmod_range (show 0 ≤ p * 7 + 3 by omega) hl2
    have hd : 0 ≤ Int.tdiv p (s.length : Int) ∧ Int.tdiv p (s.length : Int) ≤ 1000000 := by
      rw [Int.tdiv_eq_ediv_of_nonneg hp]
      exact ⟨Int.ediv_nonneg hp (by omega), Int.le_trans (Int.ediv_le_self _ hp) hp2⟩
    have hb1 := rd_byte hs (Int.tmod p (s.length : Int))
    have hb2 := rd_byte hs (Int.tmod (p * 7 + 3) (s.length : Int))
    obtain ⟨b1, g1⟩ : ∃ b, rd s (Int.tmod p (s.length : Int)) = b := ⟨_, rfl⟩
    obtain ⟨b2, g2⟩ : ∃ b, rd s (Int.tmod (p * 7 + 3) (s.length : Int)) = b := ⟨_, rfl⟩
    obtain ⟨d, g3⟩ : ∃ d, Int.tdiv p (s.length : Int) = d := ⟨_, rfl⟩
    rw [g1] at hb1
    rw [g2] at hb2
    rw [g3] at hd
    have eX : wrap64 (wrap64 (wrap64 (wrap64 (wrap64 b1 * 131) + wrap64 (wrap64 b2 * 1117)) + wrap64 (p * 29)) + wrap64 (wrap64 d * 53)) = b1 * 131 + b2 * 1117 + p * 29 + d * 53 := by
      unfold wrap64
      omega
    have hX : 0 ≤ b1 * 131 + b2 * 1117 + p * 29 + d * 53 ∧ b1 * 131 + b2 * 1117 + p * 29 + d * 53 < 4294967296 := by omega
    obtain ⟨x, g4⟩ : ∃ x, b1 * 131 + b2 * 1117 + p * 29 + d * 53 = x := ⟨_, rfl⟩
    rw [g4] at eX hX
    have eY : wrap64 (Int.tdiv x 64) = x / 64 := by
      rw [Int.tdiv_eq_ediv_of_nonneg hX.1]
      exact w64 (by omega)
    have hxr := xor_range x (x / 64) hX.1 hX.2 (by omega) (by omega)
    have ht := tmod_range hxr.1 (show (0 : Int) < n by omega)
    refine ⟨Int.tmod (Go.bits .xor .i64 x (x / 64)) n, fun k hk => ?_, ht.1, fun _ => ht.2, fun h => by omega⟩
    obtain ⟨k, rfl⟩ : ∃ m, k = m + 1 := ⟨k - 1, by omega⟩
    unfold spec_l20Rd_pick.f
    rw [if_neg hn, e1, hl1]
    simp only [spec_l20Rd_pick.j0]
    rw [if_neg (by decide), e2, if_neg hlt, if_neg hl, if_pos hm1.1, if_pos hm1.2, e4, if_pos hm2.1, if_pos hm2.2, if_neg (by omega), g1, g2, g3, eX, eY]
theorem odd_ok {s : List Int} (hs : Bytes s) (p n : Int) (hp : 0 ≤ p) (hp2 : p ≤ 1000000) (hn2 : n ≤ 1000000) :
    ∃ b p', (∀ k, 1 ≤ k → spec_l20Rd_odd.f k s p n = some (b, p')) ∧ 0 ≤ p' ∧ p' ≤ p + 1 ∧ (n ≤ 0 → b = false) := by
  by_cases hn : n > 0
  · obtain ⟨r, hr, _⟩ := pick_ok hs p n hp hp2 hn2
    refine ⟨r == wrap64 (n - 1), p + 1, fun k hk => ?_, by omega, Int.le_refl _, fun h => by omega⟩
    unfold spec_l20Rd_odd.f
    rw [if_pos hn, hr k hk]
    rfl
  · refine ⟨false, p, fun k hk => ?_, hp, by omega, fun _ => rfl⟩
    unfold spec_l20Rd_odd.f
    rw [if_neg hn]
theorem bytes_take {l : List Int} (h : ∀ x ∈ l, (Lit.int .u8 x).wf = true) (n : Nat) (hn : n ≤ 2000) : Bytes (l.take n) := by
  refine ⟨by rw [List.length_take]; omega, fun x hx => ?_⟩
  have := h x (List.mem_of_mem_take hx)
  simp [Lit.wf, IntKind.min, IntKind.max, IntKind.signed, IntKind.bits] at this
  omega
theorem bytes_of {l : List Int} (h : ∀ x ∈ l, (Lit.int .u8 x).wf = true) (hn : l.length ≤ 2000) : Bytes l := by
  have := bytes_take h 2000 (Nat.le_refl _)
  rwa [List.take_of_length_le hn] at this
theorem open_ok {l : List Int} (h : ∀ x ∈ l, (Lit.int .u8 x).wf = true) : ∃ s, spec_l20Open.f l = some (s, 0) ∧ Bytes s := by
  unfold spec_l20Open.f
  by_cases hl : (l.length : Int) > 2000
  · rw [if_pos hl, if_pos (by omega)]
    exact ⟨_, rfl, bytes_take h 2000 (Nat.le_refl _)⟩
  · rw [if_neg hl]
    exact ⟨_, rfl, bytes_of h (by omega)⟩
theorem alive_eq : laws_alive.f = some true := by decide +kernel
def OkP (x : S87) : Prop := (0 ≤ x.f0 ∧ x.f0 ≤ 6) ∧ (0 ≤ x.f1 ∧ x.f1 ≤ 6)
def LtP (x y : S87) : Prop := x.f0 < y.f0 ∨ (x.f0 = y.f0 ∧ x.f1 < y.f1)
theorem ltP_tr (a b c : S87) (h : LtP a b) (h' : LtP b c) : LtP a c := by
  unfold LtP at *
  omega
def GoodP (l : List S87) (j : Nat) : Prop := OkP (l.getD j z87) ∧ (0 < j → LtP (l.getD (j - 1) z87) (l.getD j z87))
theorem rdP_nat (l : List S87) (j : Nat) : rd_T87 l (j : Int) = l.getD j z87 := rfl
theorem less_eq (x y : S87) : ∃ b, spec_l26Less.f x.f0 x.f1 y.f0 y.f1 = some b ∧ (b = true ↔ LtP x y) := by
  unfold spec_l26Less.f LtP
  by_cases h : x.f0 < y.f0
  · exact ⟨true, by rw [if_pos h], by simp [h]⟩
  · rw [if_neg h]
    by_cases h' : x.f0 = y.f0
    · exact ⟨decide (x.f1 < y.f1), by rw [if_pos h'], by rw [decide_eq_true_iff]; exact ⟨fun g => Or.inr ⟨h', g⟩, fun g => by omega⟩⟩
    · exact ⟨false, by rw [if_neg h'], ⟨fun g => (nomatch g), fun g => absurd g (by omega)⟩⟩
theorem pok_eq (x : S87) : ∃ b, impl_Pair_ok.f x.f0 x.f1 = some b ∧ (b = true ↔ OkP x) := by
  unfold impl_Pair_ok.f OkP
  rw [between_eq]
  simp only [Option.bind_some]
  by_cases h : 0 ≤ x.f0 ∧ x.f0 ≤ 6
  · rw [decide_eq_true h, if_pos rfl, between_eq]
    exact ⟨_, rfl, by rw [decide_eq_true_iff]; exact ⟨fun g => ⟨h, g⟩, fun g => g.2⟩⟩
  · rw [decide_eq_false h, if_neg (by decide)]
    exact ⟨false, rfl, ⟨fun g => (nomatch g), fun g => absurd g.1 h⟩⟩
theorem cmpi (a b : Int) : cmp_Compare_int.f a b = some (if a < b then -1 else if a > b then 1 else 0) := by
  unfold cmp_Compare_int.f cmp_isNaN_int.f
  simp only [Option.bind_some]
  rw [if_neg (by simp), if_neg (by simp)]
  by_cases h : a < b
  · rw [if_pos h, if_pos h]
  · rw [if_neg h, if_neg h]
    by_cases h' : a > b
    · rw [if_pos h', if_pos h']
    · rw [if_neg h', if_neg h']
theorem or_eq (a b : Int) (k : Nat) (hk : 3 ≤ k) : cmp_Or_int.f k [a, b] = some (if a = 0 then b else a) := by
  obtain ⟨k, rfl⟩ : ∃ m, k = m + 1 + 1 + 1 := ⟨k - 3, by omega⟩
  have w0 : wrap64 (0 + 1) = 1 := w64g (by omega)
  have w1 : wrap64 (1 + 1) = 2 := w64g (by omega)
  have e0 : rd [a, b] 0 = a := rfl
  have e1 : rd [a, b] 1 = b := rfl
  show cmp_Or_int.l0 (k + 1 + 1 + 1) 0 [a, b] 2 0 = _
  rw [cmp_Or_int.l0, if_pos (by decide), if_pos (by decide), if_pos (show (0 : Int) < (([a, b] : List Int).length : Int) by simp), e0]
  by_cases h : a = 0
  · rw [if_pos h, if_pos h, w0, cmp_Or_int.l0, if_pos (by decide), if_pos (by decide), if_pos (show (1 : Int) < (([a, b] : List Int).length : Int) by simp), e1]
    by_cases h' : b = 0
    · rw [if_pos h', w1, cmp_Or_int.l0, if_neg (by decide), h']
    · rw [if_neg h']
  · rw [if_neg h, if_neg h]
theorem order_eq (x y : S87) : ∃ v, (∀ k, 3 ≤ k → impl_Pair_order.f k x.f0 x.f1 y.f0 y.f1 = some v) ∧ (v ≥ 0 ↔ ¬ LtP x y) := by
  refine ⟨(if (if x.f0 < y.f0 then -1 else if x.f0 > y.f0 then 1 else 0 : Int) = 0 then (if x.f1 < y.f1 then -1 else if x.f1 > y.f1 then 1 else 0 : Int) else (if x.f0 < y.f0 then -1 else if x.f0 > y.f0 then 1 else 0 : Int)), fun k hk => ?_, ?_⟩
  · unfold impl_Pair_order.f
    rw [cmpi, Option.bind_some, cmpi, Option.bind_some, or_eq _ _ k hk, Option.bind_some]
  · unfold LtP
    by_cases h : x.f0 < y.f0
    · rw [if_pos h, if_neg (by decide)]
      exact ⟨fun g => absurd g (by decide), fun g => absurd (Or.inl h) g⟩
    · rw [if_neg h]
      by_cases h' : x.f0 > y.f0
      · rw [if_pos h', if_neg (by decide)]
        exact ⟨fun _ => by omega, fun _ => by decide⟩
      · rw [if_neg h', if_pos rfl]
        by_cases g : x.f1 < y.f1
        · rw [if_pos g]
          exact ⟨fun e => absurd e (by decide), fun e => absurd (Or.inr ⟨by omega, g⟩) e⟩
        · rw [if_neg g]
          by_cases g' : x.f1 > y.f1
          · rw [if_pos g']
            exact ⟨fun _ => by omega, fun _ => by decide⟩
          · rw [if_neg g']
            exact ⟨fun _ => by omega, fun _ => by decide⟩
theorem l1In_ok (x lo hi : Int) : ∃ b, spec_l1In.f x lo hi = some b ∧ (b = true ↔ lo ≤ x ∧ x ≤ hi) := ⟨_, l1In_eq x lo hi, decide_eq_true_iff⟩
theorem spec_pairs (l : List S87) (hl : l.length ≤ 1000000000) : ∃ b, (∀ k, l.length + 1 ≤ k → spec_PairsOk.f k l = some b) ∧ (b = true ↔ (∀ j, j < l.length → GoodP l j)) := by
  obtain ⟨b, hb, hb'⟩ := scan_all (fun k i => spec_PairsOk.l0 k l i) l.length 0 (GoodP l) true
    (by
      intro k j _ hj g
      obtain ⟨g1, g2⟩ := g
      show spec_PairsOk.l0 (k + 1) l j = _
      rw [spec_PairsOk.l0, if_pos (by omega), if_pos (by omega), rdP_nat]
      obtain ⟨b1, e1, h1⟩ := l1In_ok (l.getD j z87).f0 0 6
      obtain ⟨b2, e2, h2⟩ := l1In_ok (l.getD j z87).f1 0 6
      rw [e1, Option.bind_some, if_pos (h1.2 g1.1), e2, Option.bind_some, if_pos (h2.2 g1.2)]
      rw [show wrap64 ((j : Int) + 1) = ((j + 1 : Nat) : Int) by rw [w64g (by omega)]; omega]
      by_cases h0 : j = 0
      · rw [if_neg (by omega)]
      · rw [if_pos (by omega), show wrap64 ((j : Int) - 1) = ((j - 1 : Nat) : Int) by rw [w64g (by omega)]; omega, if_pos (by omega), if_pos (by omega), rdP_nat]
        obtain ⟨b3, e3, h3⟩ := less_eq (l.getD (j - 1) z87) (l.getD j z87)
        rw [e3, Option.bind_some, if_pos (h3.2 (g2 (by omega)))])
    (by
      intro k j _ hj g
      show spec_PairsOk.l0 (k + 1) l j = _
      rw [spec_PairsOk.l0, if_pos (by omega), if_pos (by omega), rdP_nat]
      obtain ⟨b1, e1, h1⟩ := l1In_ok (l.getD j z87).f0 0 6
      obtain ⟨b2, e2, h2⟩ := l1In_ok (l.getD j z87).f1 0 6
      rw [e1, Option.bind_some]
      by_cases c1 : b1 = true
      · rw [if_pos c1, e2, Option.bind_some]
        by_cases c2 : b2 = true
        · rw [if_pos c2]
          have g2 : 0 < j ∧ ¬ LtP (l.getD (j - 1) z87) (l.getD j z87) := by
            refine ⟨?_, ?_⟩
            · by_cases h0 : 0 < j
              · exact h0
              · exact absurd ⟨⟨h1.1 c1, h2.1 c2⟩, fun h => absurd h h0⟩ g
            · intro h
              exact g ⟨⟨h1.1 c1, h2.1 c2⟩, fun _ => h⟩
          rw [if_pos (by omega), show wrap64 ((j : Int) - 1) = ((j - 1 : Nat) : Int) by rw [w64g (by omega)]; omega, if_pos (by omega), if_pos (by omega), rdP_nat]
          obtain ⟨b3, e3, h3⟩ := less_eq (l.getD (j - 1) z87) (l.getD j z87)
          rw [e3, Option.bind_some, if_neg (fun h => g2.2 (h3.1 h))]
        · rw [if_neg c2]
      · rw [if_neg c1])
    (by
      intro k _
      show spec_PairsOk.l0 (k + 1) l l.length = _
      rw [spec_PairsOk.l0, if_neg (by omega)])
  exact ⟨b, fun k hk => hb k (by omega), hb'.trans ⟨fun h => h.1, fun h => ⟨h, rfl⟩⟩⟩
theorem impl_pairs (l : List S87) (hl : l.length ≤ 1000000000) : ∃ b, (∀ k, l.length + 4 ≤ k → impl_PairsOk.f k l = some b) ∧ (b = true ↔ (∀ j, j < l.length → GoodP l j)) := by
  obtain ⟨b, hb, hb'⟩ := scan_all (fun k i => impl_PairsOk.l0 k l l (l.length : Int) i) l.length 3 (GoodP l) true
    (by
      intro k j hk hj g
      obtain ⟨g1, g2⟩ := g
      show impl_PairsOk.l0 (k + 1) l l (l.length : Int) j = _
      rw [impl_PairsOk.l0, if_pos (by omega), if_pos (by omega), if_pos (by omega), rdP_nat]
      obtain ⟨b1, e1, h1⟩ := pok_eq (l.getD j z87)
      rw [e1, Option.bind_some, if_pos (h1.2 g1)]
      rw [show wrap64 ((j : Int) + 1) = ((j + 1 : Nat) : Int) by rw [w64g (by omega)]; omega]
      by_cases h0 : j = 0
      · rw [if_neg (by omega)]
      · rw [if_pos (by omega), show wrap64 ((j : Int) - 1) = ((j - 1 : Nat) : Int) by rw [w64g (by omega)]; omega, if_pos (by omega), if_pos (by omega), rdP_nat]
        obtain ⟨v, e3, h3⟩ := order_eq (l.getD (j - 1) z87) (l.getD j z87)
        rw [e3 k hk, Option.bind_some, if_neg (fun h => h3.1 h (g2 (by omega)))])
    (by
      intro k j hk hj g
      show impl_PairsOk.l0 (k + 1) l l (l.length : Int) j = _
      rw [impl_PairsOk.l0, if_pos (by omega), if_pos (by omega), if_pos (by omega), rdP_nat]
      obtain ⟨b1, e1, h1⟩ := pok_eq (l.getD j z87)
      rw [e1, Option.bind_some]
      by_cases c1 : b1 = true
      · rw [if_pos c1]
        have g2 : 0 < j ∧ ¬ LtP (l.getD (j - 1) z87) (l.getD j z87) := by
          refine ⟨?_, ?_⟩
          · by_cases h0 : 0 < j
            · exact h0
            · exact absurd ⟨h1.1 c1, fun h => absurd h h0⟩ g
          · intro h
            exact g ⟨h1.1 c1, fun _ => h⟩
        rw [if_pos (by omega), show wrap64 ((j : Int) - 1) = ((j - 1 : Nat) : Int) by rw [w64g (by omega)]; omega, if_pos (by omega), if_pos (by omega), rdP_nat]
        obtain ⟨v, e3, h3⟩ := order_eq (l.getD (j - 1) z87) (l.getD j z87)
        rw [e3 k hk, Option.bind_some, if_pos (h3.2 g2.2)]
      · rw [if_neg c1])
    (by
      intro k _
      show impl_PairsOk.l0 (k + 1) l l (l.length : Int) l.length = _
      rw [impl_PairsOk.l0, if_neg (by omega)])
  exact ⟨b, fun k hk => hb k (by omega), hb'.trans ⟨fun h => h.1, fun h => ⟨h, rfl⟩⟩⟩
theorem eqPairS_eq (l : List S87) (hl : l.length ≤ 1000000000) : ∀ k, l.length + 1 ≤ k → laws_eqPairS.f k l l = some true := by
  intro k hk
  unfold laws_eqPairS.f
  rw [if_pos rfl]
  refine go_all (fun k i => laws_eqPairS.l0 k l l i) l.length 0 1 true ?_ ?_ k (by omega)
  · intro k j _ hj
    show laws_eqPairS.l0 (k + 1) l l j = _
    rw [laws_eqPairS.l0, if_pos (by omega), if_pos (by omega), if_pos (by omega), laws_eqPair.f, if_pos rfl, if_pos rfl, Option.bind_some, if_pos rfl, show wrap64 ((j : Int) + 1) = ((j + 1 : Nat) : Int) by rw [w64g (by omega)]; omega]
  · intro k _
    show laws_eqPairS.l0 (k + 1) l l l.length = _
    rw [laws_eqPairS.l0, if_neg (by omega)]
theorem pairs_less {l : List S87} (h : ∀ j, j < l.length → GoodP l j) (a b : Nat) (hab : a ≤ b) :
    ∀ j, j < (l.take a ++ l.drop b).length → GoodP (l.take a ++ l.drop b) j := by
  have h1 := (chain_iff z87 OkP LtP ltP_tr l).1 h
  exact (chain_iff z87 OkP LtP ltP_tr _).2 (chain_less h1 a b hab)
theorem has_ok (l : List S87) (hl : l.length ≤ 1000000000) (a b : Int) : ∃ r, ∀ k, l.length + 1 ≤ k → spec_l26Has.f k l a b = some r := by
  obtain ⟨r, hr⟩ := any_ok (fun k i => spec_l26Has.l0 k l i a b) l.length 0
    (by
      intro j hj
      by_cases h : (((rd_T87 l j).f0) == a && (((rd_T87 l j).f1) == b)) = true
      · refine Or.inl ⟨true, fun k _ => ?_⟩
        show spec_l26Has.l0 (k + 1) l j a b = _
        rw [spec_l26Has.l0, if_pos (by omega), if_pos (by omega), if_pos h]
      · refine Or.inr fun k _ => ?_
        show spec_l26Has.l0 (k + 1) l j a b = _
        rw [spec_l26Has.l0, if_pos (by omega), if_pos (by omega), if_neg h, show wrap64 ((j : Int) + 1) = ((j + 1 : Nat) : Int) by rw [w64g (by omega)]; omega])
    ⟨false, fun k _ => by
      show spec_l26Has.l0 (k + 1) l l.length a b = _
      rw [spec_l26Has.l0, if_neg (by omega)]⟩
  exact ⟨r, fun k hk => hr k (by omega)⟩
theorem with_row (x0 x1 : List S87) (h0 : x0.length ≤ 1000) (h1 : x1.length ≤ 1000) (x6 : Int) : ∀ (d : Nat) (x5 : List S87), d ≤ 7 → x5.length + d ≤ 1000 →
    ∃ r, r.length ≤ x5.length + d ∧ ∀ k, 2002 ≤ k → spec_l26With.l1 (k + d + 1) x0 x1 x5 x6 ((7 - d : Nat) : Int) = spec_l26With.l0 k x0 x1 r (wrap64 (x6 + 1)) := by
  intro d
  induction d with
  | zero =>
    intro x5 _ _
    refine ⟨x5, Nat.le_refl _, fun k hk => ?_⟩
    rw [spec_l26With.l1, if_neg (by decide)]
  | succ d ih =>
    intro x5 hd hz
    have ew : wrap64 (((7 - (d + 1) : Nat) : Int) + 1) = ((7 - d : Nat) : Int) := by rw [w64g (by omega)]; omega
    obtain ⟨b, hb⟩ := has_ok x0 (by omega) x6 ((7 - (d + 1) : Nat) : Int)
    obtain ⟨c, hc⟩ := has_ok x1 (by omega) x6 ((7 - (d + 1) : Nat) : Int)
    by_cases hh : b = true ∨ c = true
    · obtain ⟨r, hr, hk'⟩ := ih (x5 ++ [⟨x6, ((7 - (d + 1) : Nat) : Int)⟩]) (by omega) (by rw [List.length_append]; simp; omega)
      refine ⟨r, by rw [List.length_append] at hr; simp at hr; omega, fun k hk => ?_⟩
      rw [spec_l26With.l1, if_pos (by omega), hb _ (by omega), Option.bind_some]
      by_cases g : b = true
      · rw [if_pos g, if_pos (by omega), ew]
        exact hk' k hk
      · have g' : c = true := hh.resolve_left g
        rw [if_neg g, hc _ (by omega), Option.bind_some, if_pos g', if_pos (by omega), ew]
        exact hk' k hk
    · obtain ⟨r, hr, hk'⟩ := ih x5 (by omega) (by omega)
      refine ⟨r, by omega, fun k hk => ?_⟩
      rw [spec_l26With.l1, if_pos (by omega), hb _ (by omega), Option.bind_some, if_neg (fun h => hh (Or.inl h)), hc _ (by omega), Option.bind_some, if_neg (fun h => hh (Or.inr h)), ew]
      exact hk' k hk
theorem with_all (x0 x1 : List S87) (h0 : x0.length ≤ 1000) (h1 : x1.length ≤ 1000) : ∀ (e : Nat) (x5 : List S87), e ≤ 7 → x5.length + 7 * e ≤ 900 →
    ∃ r, r.length ≤ x5.length + 7 * e ∧ ∀ k, 2003 + 9 * e ≤ k → spec_l26With.l0 k x0 x1 x5 ((7 - e : Nat) : Int) = some r := by
  intro e
  induction e with
  | zero =>
    intro x5 _ _
    refine ⟨x5, Nat.le_refl _, fun k hk => ?_⟩
    obtain ⟨k, rfl⟩ : ∃ m, k = m + 1 := ⟨k - 1, by omega⟩
    rw [spec_l26With.l0, if_neg (by decide)]
  | succ e ih =>
    intro x5 he hz
    obtain ⟨r, hr, hk'⟩ := with_row x0 x1 h0 h1 ((7 - (e + 1) : Nat) : Int) 7 x5 (by omega) (by omega)
    obtain ⟨q, hq, hq'⟩ := ih r (by omega) (by omega)
    refine ⟨q, by omega, fun k hk => ?_⟩
    obtain ⟨k, rfl⟩ : ∃ m, k = m + 7 + 1 + 1 := ⟨k - 9, by omega⟩
    rw [spec_l26With.l0, if_pos (by omega)]
    have := hk' k (by omega)
    rw [show wrap64 (((7 - (e + 1) : Nat) : Int) + 1) = ((7 - e : Nat) : Int) by rw [w64g (by omega)]; omega] at this
    exact this.trans (hq' k (by omega))
theorem with_ok (x0 x1 : List S87) (h0 : x0.length ≤ 1000) (h1 : x1.length ≤ 1000) : ∃ r, r.length ≤ 49 ∧ ∀ k, 3000 ≤ k → spec_l26With.f k x0 x1 = some r := by
  obtain ⟨r, hr, hk'⟩ := with_all x0 x1 h0 h1 7 [] (by omega) (by simp)
  exact ⟨r, by simpa using hr, fun k hk => hk' k (by omega)⟩
theorem draw_pairs_loop {s : List Int} (hs : Bytes s) : ∀ (d : Nat) (l : List S87) (p : Int), 0 ≤ p → p + 2 * d ≤ 90000 → d ≤ 10 → l.length + d ≤ 10 →
    ∃ r p', (∀ k, d + 3003 ≤ k → spec_l20Pairs.l0 k 2 l (d : Int) s p = some (r, p')) ∧ r.length ≤ 50 := by
  intro d
  induction d with
  | zero =>
    intro l p hp hp2 _ hz
    obtain ⟨q, hq, hq'⟩ := with_ok l [] (by omega) (by simp)
    obtain ⟨b, p1, hb, h0, h1, _⟩ := odd_ok hs p 2 hp (by omega) (by omega)
    cases b with
    | false =>
      refine ⟨q, p1, fun k hk => ?_, by omega⟩
      obtain ⟨k, rfl⟩ : ∃ m, k = m + 1 := ⟨k - 1, by omega⟩
      rw [spec_l20Pairs.l0, if_neg (by decide), hq' k (by omega), Option.bind_some, hb k (by omega), Option.bind_some]
      rfl
    | true =>
      obtain ⟨c, hc, _⟩ := pick_ok hs p1 9 h0 (by omega) (by decide)
      obtain ⟨c2, hc2, _⟩ := pick_ok hs (p1 + 1) 9 (by omega) (by omega) (by decide)
      refine ⟨q ++ [⟨wrap64 (c - 1), wrap64 (c2 - 1)⟩], p1 + 1 + 1, fun k hk => ?_, by rw [List.length_append]; simp; omega⟩
      obtain ⟨k, rfl⟩ : ∃ m, k = m + 1 := ⟨k - 1, by omega⟩
      rw [spec_l20Pairs.l0, if_neg (by decide), hq' k (by omega), Option.bind_some, hb k (by omega), Option.bind_some, if_pos rfl, hc k (by omega), Option.bind_some, hc2 k (by omega), Option.bind_some, if_pos (by omega)]
  | succ d ih =>
    intro l p hp hp2 hd hz
    obtain ⟨c, hc, _⟩ := pick_ok hs p 7 hp (by omega) (by decide)
    obtain ⟨c2, hc2, _⟩ := pick_ok hs (p + 1) 7 (by omega) (by omega) (by decide)
    obtain ⟨r, p', hr, h2⟩ := ih (l ++ [⟨c, c2⟩]) (p + 1 + 1) (by omega) (by omega) (by omega) (by rw [List.length_append]; simp; omega)
    refine ⟨r, p', fun k hk => ?_, h2⟩
    obtain ⟨k, rfl⟩ : ∃ m, k = m + 1 := ⟨k - 1, by omega⟩
    rw [spec_l20Pairs.l0, if_pos (by omega), hc k (by omega), Option.bind_some, hc2 k (by omega), Option.bind_some, if_pos (by omega), show wrap64 (((d + 1 : Nat) : Int) - 1) = (d : Int) by rw [w64g (by omega)]; omega]
    exact hr k (by omega)
theorem draw_pairs {l : List Int} (h : ∀ x ∈ l, (Lit.int .u8 x).wf = true) : ∃ r, (∀ k, 3020 ≤ k → spec_DrawPairsOk.f k l = some r) ∧ r.length ≤ 50 := by
  obtain ⟨s, hs, hb⟩ := open_ok h
  obtain ⟨c, hc, c0, c1, _⟩ := pick_ok hb 0 9 (by omega) (by omega) (by decide)
  have c1 := c1 (by decide)
  obtain ⟨e, rfl⟩ := Int.eq_ofNat_of_zero_le c0
  obtain ⟨r, p', hr, h2⟩ := draw_pairs_loop hb e [] (0 + 1) (by omega) (by omega) (by omega) (by simp; omega)
  refine ⟨r, fun k hk => ?_, h2⟩
  unfold spec_DrawPairsOk.f spec_l20Pairs.f
  rw [hs, Option.bind_some]
  show ((spec_l20Rd_pick.f k s 0 9).bind _).bind _ = _
  rw [hc k (by omega), Option.bind_some, hr k (by omega), Option.bind_some]
theorem FnPairsOk : laws_FnPairsOk.Pure := by
  intro l hl
  obtain ⟨c, hc, hz⟩ := draw_pairs hl.2
  obtain ⟨K, hK⟩ : ∃ K : Nat, 10000 ≤ K := ⟨10000, Nat.le_refl _⟩
  refine ⟨K, ?_⟩
  unfold laws_FnPairsOk.f
  by_cases h : (l.length : Int) > 1048576
  · rw [if_pos h]
  · rw [if_neg h, hc _ (by omega)]
    simp only [Option.bind_some]
    obtain ⟨b, hb, hb'⟩ := spec_pairs c (by omega)
    obtain ⟨i, hi, hi'⟩ := impl_pairs c (by omega)
    have e : i = b := by
      rw [Bool.eq_iff_iff, hb', hi']
    rw [hb _ (by omega), hi _ (by omega)]
    simp only [Option.bind_some]
    subst e
    rw [if_neg (by simp)]
    have fin : ∀ k j x, 40 ≤ k → laws_FnPairsOk.j1 (k + 1) x i j false = some true := by
      intro k j x hk
      simp only [laws_FnPairsOk.j1]
      rw [if_neg (by decide)]
      obtain ⟨n, hn, hn'⟩ := impl_pairs [] (by decide)
      have en : n = true := hn'.2 (fun j hj => absurd hj (Nat.not_lt_zero _))
      rw [hn _ (by simp; omega)]
      simp only [Option.bind_some]
      rw [if_pos en, alive_eq]
      rfl
    cases i with
    | false =>
      obtain ⟨K, rfl⟩ : ∃ m, K = m + 1 + 1 := ⟨K - 2, by omega⟩
      simp only [laws_FnPairsOk.l0]
      by_cases h0 : (0 : Int) < (c.length : Int)
      · rw [if_pos h0]
        exact fin _ _ _ (by omega)
      · rw [if_neg h0]
        exact fin _ _ _ (by omega)
    | true =>
      have g := hi'.1 rfl
      refine go_all2 (fun k j => laws_FnPairsOk.l0 k c true j) c.length 60 true ?_ ?_ K (by omega)
      · intro k j hk hj
        show laws_FnPairsOk.l0 (k + 1 + 1) c true j = laws_FnPairsOk.l0 k c true ((j + 1 : Nat) : Int)
        simp only [laws_FnPairsOk.l0]
        rw [if_pos (by omega)]
        rw [laws_FnPairsOk.j1]
        have g' := pairs_less g j (j + 1) (by omega)
        obtain ⟨n, hn, hn'⟩ := impl_pairs (c.take j ++ c.drop (j + 1)) (by simp only [List.length_append, List.length_drop, List.length_take]; omega)
        have en : n = true := hn'.2 g'
        have ew : wrap64 ((j : Int) + 1) = ((j + 1 : Nat) : Int) := by rw [w64g (by omega)]; omega
        rw [ew, Int.toNat_natCast, Int.toNat_natCast, if_pos rfl, Option.bind_some, if_pos (by omega), if_pos (by omega), Option.bind_some]
        rw [if_pos (by simp only [List.length_nil, List.length_take]; omega), Option.bind_some, if_pos (by omega), if_pos (by omega), Option.bind_some]
        rw [if_pos (by simp only [List.length_append, List.length_nil, List.length_drop, List.length_take]; omega), List.nil_append, hn k (by simp only [List.length_append, List.length_drop, List.length_take]; omega), Option.bind_some, if_pos en]
      · intro k hk
        show laws_FnPairsOk.l0 (k + 1 + 1) c true c.length = _
        simp only [laws_FnPairsOk.l0]
        rw [if_neg (by omega)]
        exact fin _ _ _ (by omega)

end Go.Proofs.Ytkgnfbockgcdpaa.Pure
