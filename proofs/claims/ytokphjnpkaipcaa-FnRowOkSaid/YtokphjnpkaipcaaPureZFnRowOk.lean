/- A row has bytes where it is one: FnRowOk returns true for every list of bytes; no condition. -/
import Derived.Test.YtokphjnpkaipcaaVMore
import Derived.Test.YtokphjnpkaipcaaX0
import Derived.Test.YtokphjnpkaipcaaZFnRowOk5
set_option linter.unusedVariables false
set_option linter.unusedSimpArgs false
namespace Go.Proofs.Ytokphjnpkaipcaa.Pure
open Go.RowKit Go.Proofs.Ytokphjnpkaipcaa.X Go.Proofs.YtokphjnpkaipcaaV.PrintWords Go.Proofs.YtokphjnpkaipcaaV.PrintLast Go.Proofs.YtokphjnpkaipcaaV.PrintMore

theorem w64 {n : Int} (h : -9223372036854775808 ≤ n ∧ n ≤ 9223372036854775807) : wrap64 n = n := by unfold wrap64; omega
theorem xor_range (a b : Int) (ha : 0 ≤ a) (ha2 : a < 4294967296) (hb : 0 ≤ b) (hb2 : b < 4294967296) : 0 ≤ Go.bits .xor .i64 a b ∧ Go.bits .xor .i64 a b < 4294967296 := by
  obtain ⟨x, rfl⟩ := Int.eq_ofNat_of_zero_le ha
  obtain ⟨y, rfl⟩ := Int.eq_ofNat_of_zero_le hb
  have hx : x < 2 ^ 32 := by omega
  have hy : y < 2 ^ 32 := by omega
  have h1 : x % 2 ^ IntKind.i64.bits = x := Nat.mod_eq_of_lt (Nat.lt_of_lt_of_le hx (by decide))
  have h2 : y % 2 ^ IntKind.i64.bits = y := Nat.mod_eq_of_lt (Nat.lt_of_lt_of_le hy (by decide))
  have hz : x ^^^ y < 2 ^ 32 := Nat.xor_lt_two_pow hx hy
  have e : Go.bits .xor .i64 (x : Int) (y : Int) = ((x ^^^ y : Nat) : Int) := by
    simp only [Go.bits, BitVec.ofInt_natCast, BitVec.toNat_xor, BitVec.toNat_ofNat, h1, h2]
    rw [IntKind.wrap_i64]
    omega
  rw [e]
  omega
/-- At most 2000 bytes. -/
def Bytes (s : List Int) : Prop := s.length ≤ 2000 ∧ ∀ x ∈ s, 0 ≤ x ∧ x ≤ 255
theorem rd_byte {s : List Int} (hs : Bytes s) (i : Int) : 0 ≤ rd s i ∧ rd s i ≤ 255 := by
  unfold rd
  rw [List.getD_eq_getElem?_getD]
  cases h : s[i.toNat]? with
  | none => simp
  | some x => exact hs.2 x (List.mem_of_getElem? h)
theorem tmod_range {a b : Int} (ha : 0 ≤ a) (hb : 0 < b) : 0 ≤ Int.tmod a b ∧ Int.tmod a b < b := by
  rw [Int.tmod_eq_emod_of_nonneg ha]
  exact ⟨Int.emod_nonneg a (by omega), Int.emod_lt_of_pos a hb⟩
theorem pick_ok {s : List Int} (hs : Bytes s) (p n : Int) (hp : 0 ≤ p) (hp2 : p ≤ 1000000) (hn2 : n ≤ 1000000) :
    ∃ r, (∀ k, 1 ≤ k → spec_l20Rd_pick.f k s p n = some (r, p + 1)) ∧ 0 ≤ r ∧ (1 ≤ n → r < n) ∧ (n < 1 → r = 0) := by
  have e1 : wrap64 (p + 1) = p + 1 := w64 (by omega)
  have e2 : wrap64 (p + 1 - 1) = p := by rw [w64 (by omega)]; omega
  by_cases hn : n < 1
  · refine ⟨0, fun k hk => ?_, Int.le_refl _, fun h => by omega, fun _ => rfl⟩
    obtain ⟨k, rfl⟩ : ∃ m, k = m + 1 := ⟨k - 1, by omega⟩
    unfold spec_l20Rd_pick.f
    rw [if_pos hn, e1]
    simp only [spec_l20Rd_pick.j0]
    rw [if_pos (by decide)]
  by_cases hl : (s.length : Int) = 0
  · refine ⟨0, fun k hk => ?_, Int.le_refl _, fun h => by omega, fun _ => rfl⟩
    obtain ⟨k, rfl⟩ : ∃ m, k = m + 1 := ⟨k - 1, by omega⟩
    unfold spec_l20Rd_pick.f
    rw [if_neg hn, e1, beq_iff_eq.2 hl]
    simp only [spec_l20Rd_pick.j0]
    rw [if_pos (by decide)]
  have hl1 : ((s.length : Int) == 0) = false := by rw [beq_eq_false_iff_ne]; exact hl
  have hl2 : 0 < (s.length : Int) := by omega
  by_cases hlt : p < (s.length : Int)
  · have hr := rd_byte hs p
    have e3 : wrap64 (rd s p) = rd s p := w64 (by omega)
    have ht := tmod_range hr.1 (show (0 : Int) < n by omega)
    refine ⟨Int.tmod (rd s p) n, fun k hk => ?_, ht.1, fun _ => ht.2, fun h => by omega⟩
    obtain ⟨k, rfl⟩ : ∃ m, k = m + 1 := ⟨k - 1, by omega⟩
    unfold spec_l20Rd_pick.f
    rw [if_neg hn, e1, hl1]
    simp only [spec_l20Rd_pick.j0]
    rw [if_neg (by decide), e2, if_pos hlt, if_pos hp, if_neg (by omega), e3]
  · have hm1 := tmod_range hp hl2
    have e4 : wrap64 (wrap64 (p * 7) + 3) = p * 7 + 3 := by rw [w64 (n := p * 7) (by omega)]; exact w64 (by omega)
    have hm2 := tmod_range (show 0 ≤ p * 7 + 3 by omega) hl2
    have hd : 0 ≤ Int.tdiv p (s.length : Int) ∧ Int.tdiv p (s.length : Int) ≤ 1000000 := by
      rw [Int.tdiv_eq_ediv_of_nonneg hp]
      exact ⟨Int.ediv_nonneg hp (by omega), Int.le_trans (Int.ediv_le_self _ hp) hp2⟩
    have hb1 := rd_byte hs (Int.tmod p (s.length : Int))
    have hb2 := rd_byte hs (Int.tmod (p * 7 + 3) (s.length : Int))
    obtain ⟨b1, g1⟩ : ∃ b, rd s (Int.tmod p (s.length : Int)) = b := ⟨_, rfl⟩
    obtain ⟨b2, g2⟩ : ∃ b, rd s (Int.tmod (p * 7 + 3) (s.length : Int)) = b := ⟨_, rfl⟩
    obtain ⟨d, g3⟩ : ∃ d, Int.tdiv p (s.length : Int) = d := ⟨_, rfl⟩
    rw [g1] at hb1
    rw [g2] at hb2
    rw [g3] at hd
    have eX : wrap64 (wrap64 (wrap64 (wrap64 (wrap64 b1 * 131) + wrap64 (wrap64 b2 * 1117)) + wrap64 (p * 29)) + wrap64 (wrap64 d * 53)) = b1 * 131 + b2 * 1117 + p * 29 + d * 53 := by
      unfold wrap64
      omega
    have hX : 0 ≤ b1 * 131 + b2 * 1117 + p * 29 + d * 53 ∧ b1 * 131 + b2 * 1117 + p * 29 + d * 53 < 4294967296 := by omega
    obtain ⟨x, g4⟩ : ∃ x, b1 * 131 + b2 * 1117 + p * 29 + d * 53 = x := ⟨_, rfl⟩
    rw [g4] at eX hX
    have eY : wrap64 (Int.tdiv x 64) = x / 64 := by
      rw [Int.tdiv_eq_ediv_of_nonneg hX.1]
      exact w64 (by omega)
    have hxr := xor_range x (x / 64) hX.1 hX.2 (by omega) (by omega)
    have ht := tmod_range hxr.1 (show (0 : Int) < n by omega)
    refine ⟨Int.tmod (Go.bits .xor .i64 x (x / 64)) n, fun k hk => ?_, ht.1, fun _ => ht.2, fun h => by omega⟩
    obtain ⟨k, rfl⟩ : ∃ m, k = m + 1 := ⟨k - 1, by omega⟩
    unfold spec_l20Rd_pick.f
    rw [if_neg hn, e1, hl1]
    simp only [spec_l20Rd_pick.j0]
    rw [if_neg (by decide), e2, if_neg hlt, if_neg hl, if_pos hm1.1, if_pos hm1.2, e4, if_pos hm2.1, if_pos hm2.2, if_neg (by omega), g1, g2, g3, eX, eY]
theorem odd_ok {s : List Int} (hs : Bytes s) (p n : Int) (hp : 0 ≤ p) (hp2 : p ≤ 1000000) (hn2 : n ≤ 1000000) :
    ∃ b p', (∀ k, 1 ≤ k → spec_l20Rd_odd.f k s p n = some (b, p')) ∧ 0 ≤ p' ∧ p' ≤ p + 1 ∧ (n ≤ 0 → b = false) := by
  by_cases hn : n > 0
  · obtain ⟨r, hr, _⟩ := pick_ok hs p n hp hp2 hn2
    refine ⟨r == wrap64 (n - 1), p + 1, fun k hk => ?_, by omega, Int.le_refl _, fun h => by omega⟩
    unfold spec_l20Rd_odd.f
    rw [if_pos hn, hr k hk]
    rfl
  · refine ⟨false, p, fun k hk => ?_, hp, by omega, fun _ => rfl⟩
    unfold spec_l20Rd_odd.f
    rw [if_neg hn]
theorem bytes_take {l : List Int} (h : ∀ x ∈ l, (Lit.int .u8 x).wf = true) (n : Nat) (hn : n ≤ 2000) : Bytes (l.take n) := by
  refine ⟨by rw [List.length_take]; omega, fun x hx => ?_⟩
  have := h x (List.mem_of_mem_take hx)
  simp [Lit.wf, IntKind.min, IntKind.max, IntKind.signed, IntKind.bits] at this
  omega
theorem bytes_of {l : List Int} (h : ∀ x ∈ l, (Lit.int .u8 x).wf = true) (hn : l.length ≤ 2000) : Bytes l := by
  have := bytes_take h 2000 (Nat.le_refl _)
  rwa [List.take_of_length_le hn] at this

end Go.Proofs.Ytokphjnpkaipcaa.Pure
set_option linter.unusedVariables false
set_option linter.unusedSimpArgs false
namespace Go.Proofs.Ytokphjnpkaipcaa.Pure
open Go.RowKit Go.Proofs.Ytokphjnpkaipcaa.X Go.Proofs.YtokphjnpkaipcaaV.PrintWords Go.Proofs.YtokphjnpkaipcaaV.PrintLast Go.Proofs.YtokphjnpkaipcaaV.PrintMore

theorem open_ok {l : List Int} (h : ∀ x ∈ l, (Lit.int .u8 x).wf = true) : ∃ s, spec_l20Open.f l = some (s, 0) ∧ Bytes s := by
  unfold spec_l20Open.f
  by_cases hl : (l.length : Int) > 2000
  · rw [if_pos hl, if_pos (by omega)]
    exact ⟨_, rfl, bytes_take h 2000 (Nat.le_refl _)⟩
  · rw [if_neg hl]
    exact ⟨_, rfl, bytes_of h (by omega)⟩

end Go.Proofs.Ytokphjnpkaipcaa.Pure
set_option linter.unusedVariables false
set_option linter.unusedSimpArgs false
namespace Go.Proofs.Ytokphjnpkaipcaa.Pure
open Go.RowKit Go.Proofs.YtokphjnpkaipcaaV.PrintWords Go.Proofs.YtokphjnpkaipcaaV.PrintLast Go.Proofs.YtokphjnpkaipcaaV.PrintMore

theorem w64g {n : Int} (h : -9223372036854775808 ≤ n ∧ n ≤ 9223372036854775807) : wrap64 n = n := by unfold wrap64; omega
theorem scan_all (F : Nat → Int → Option Bool) (n K : Nat) (G : Nat → Prop) (fin : Bool)
    (h1 : ∀ k j, K ≤ k → j < n → G j → F (k + 1) (j : Int) = F k ((j + 1 : Nat) : Int))
    (h2 : ∀ k j, K ≤ k → j < n → ¬ G j → F (k + 1) (j : Int) = some false)
    (h3 : ∀ k, K ≤ k → F (k + 1) (n : Int) = some fin) :
    ∃ b, (∀ k, n + 1 + K ≤ k → F k 0 = some b) ∧ (b = true ↔ ((∀ j, j < n → G j) ∧ fin = true)) := by
  have main : ∀ d i, i + d = n → ∃ b, (∀ k, d + 1 + K ≤ k → F k (i : Int) = some b) ∧ (b = true ↔ ((∀ j, i ≤ j → j < n → G j) ∧ fin = true)) := by
    intro d
    induction d with
    | zero =>
      intro i hi
      have hi : i = n := by omega
      subst hi
      refine ⟨fin, fun k hk => ?_, ⟨fun h => ⟨fun j h1 h2 => by omega, h⟩, fun h => h.2⟩⟩
      obtain ⟨k, rfl⟩ : ∃ m, k = m + 1 := ⟨k - 1, by omega⟩
      exact h3 k (by omega)
    | succ d ih =>
      intro i hi
      by_cases g : G i
      · obtain ⟨b, hb, hb'⟩ := ih (i + 1) (by omega)
        refine ⟨b, fun k hk => ?_, ?_⟩
        · obtain ⟨k, rfl⟩ : ∃ m, k = m + 1 := ⟨k - 1, by omega⟩
          rw [h1 k i (by omega) (by omega) g]
          exact hb k (by omega)
        · rw [hb']
          constructor
          · intro h
            refine ⟨fun j hj hj' => ?_, h.2⟩
            by_cases e : j = i
            · rw [e]; exact g
            · exact h.1 j (by omega) hj'
          · intro h
            exact ⟨fun j hj hj' => h.1 j (by omega) hj', h.2⟩
      · refine ⟨false, fun k hk => ?_, ?_⟩
        · obtain ⟨k, rfl⟩ : ∃ m, k = m + 1 := ⟨k - 1, by omega⟩
          exact h2 k i (by omega) (by omega) g
        · constructor
          · intro h
            cases h
          · intro h
            exact absurd (h.1 i (Nat.le_refl _) (by omega)) g
  obtain ⟨b, hb, hb'⟩ := main n 0 (by omega)
  refine ⟨b, hb, ?_⟩
  rw [hb']
  constructor
  · intro h; exact ⟨fun j hj => h.1 j (by omega) hj, h.2⟩
  · intro h; exact ⟨fun j _ hj => h.1 j hj, h.2⟩
theorem go_all {α : Type} (F : Nat → Int → Option α) (n K c : Nat) (r : α)
    (h1 : ∀ k j, K ≤ k → j < n → F (k + c) (j : Int) = F k ((j + 1 : Nat) : Int))
    (h3 : ∀ k, K ≤ k → F (k + c) (n : Int) = some r) : ∀ k, K + c * (n + 1) ≤ k → F k 0 = some r := by
  have main : ∀ d i, i + d = n → ∀ k, K + c * (d + 1) ≤ k → F k (i : Int) = some r := by
    intro d
    induction d with
    | zero =>
      intro i hi k hk
      have hi : i = n := by omega
      subst hi
      obtain ⟨k, rfl⟩ : ∃ m, k = m + c := ⟨k - c, by omega⟩
      exact h3 k (by omega)
    | succ d ih =>
      intro i hi k hk
      have e : c * (d + 1 + 1) = c * (d + 1) + c := Nat.mul_succ _ _
      obtain ⟨k, rfl⟩ : ∃ m, k = m + c := ⟨k - c, by omega⟩
      rw [h1 k i (by omega) (by omega)]
      exact ih (i + 1) (by omega) k (by omega)
  exact main n 0 (by omega)
theorem copy_all {β : Type} (F : Nat → List β → Int → Option (List β)) (L : List β) (x0 : List β) (hx : x0.length = L.length) (d : β)
    (h1 : ∀ k (x : List β) j, j < L.length → x.length = L.length → F (k + 1) x (j : Int) = F k (x.set j (L.getD j d)) ((j + 1 : Nat) : Int))
    (h3 : ∀ k x, x.length = L.length → F (k + 1) x (L.length : Int) = some x) : ∀ k, L.length + 1 ≤ k → F k x0 0 = some L := by
  have main : ∀ e i, i + e = L.length → ∀ k, e + 1 ≤ k → F k (L.take i ++ x0.drop i) (i : Int) = some L := by
    intro e
    induction e with
    | zero =>
      intro i hi k hk
      have hi : i = L.length := by omega
      subst hi
      obtain ⟨k, rfl⟩ : ∃ m, k = m + 1 := ⟨k - 1, by omega⟩
      rw [h3 k _ (by simp [hx]), List.take_length, List.drop_of_length_le (by omega), List.append_nil]
    | succ e ih =>
      intro i hi k hk
      obtain ⟨k, rfl⟩ : ∃ m, k = m + 1 := ⟨k - 1, by omega⟩
      have hlen : (L.take i ++ x0.drop i).length = L.length := by
        rw [List.length_append, List.length_take, List.length_drop]
        omega
      rw [h1 k _ i (by omega) hlen]
      have hi' : i < L.length := by omega
      have hi2 : i < x0.length := by omega
      have e2 : (L.take i ++ x0.drop i).set i (L.getD i d) = L.take (i + 1) ++ x0.drop (i + 1) := by
        rw [List.set_append_right _ _ (by rw [List.length_take]; omega), List.length_take, show i - min i L.length = 0 by omega, List.drop_eq_getElem_cons hi2, List.set_cons_zero]
        rw [List.take_succ_eq_append_getElem hi', List.append_assoc]
        congr 1
        rw [List.getD_eq_getElem?_getD, List.getElem?_eq_getElem hi']
        rfl
      rw [e2]
      exact ih (i + 1) (by omega) k (by omega)
  intro k hk
  have := main L.length 0 (by omega) k hk
  simpa using this
theorem chain_iff {α : Type} (d : α) (Q : α → Prop) (R : α → α → Prop) (tr : ∀ a b c, R a b → R b c → R a c) (l : List α) :
    (∀ j, j < l.length → Q (l.getD j d) ∧ (0 < j → R (l.getD (j - 1) d) (l.getD j d))) ↔ ((∀ x ∈ l, Q x) ∧ l.Pairwise R) := by
  have gd : ∀ j (h : j < l.length), l.getD j d = l[j] := by
    intro j h
    rw [List.getD_eq_getElem?_getD, List.getElem?_eq_getElem h]
    rfl
  constructor
  · intro h
    refine ⟨fun x hx => ?_, ?_⟩
    · obtain ⟨j, hj, rfl⟩ := List.getElem_of_mem hx
      rw [← gd j hj]
      exact (h j hj).1
    · rw [List.pairwise_iff_getElem]
      have main : ∀ e i (hi : i < l.length) (hj : i + e + 1 < l.length), R l[i] l[i + e + 1] := by
        intro e
        induction e with
        | zero =>
          intro i hi hj
          have := (h (i + 0 + 1) hj).2 (by omega)
          rw [gd _ (show i + 0 + 1 - 1 < l.length by omega), gd _ hj] at this
          exact this
        | succ e ih =>
          intro i hi hj
          have h1 := ih i hi (by omega)
          have := (h (i + (e + 1) + 1) hj).2 (by omega)
          rw [gd _ (show i + (e + 1) + 1 - 1 < l.length by omega), gd _ hj] at this
          exact tr _ _ _ h1 this
      intro i j hi hj hij
      obtain ⟨e, rfl⟩ : ∃ e, j = i + e + 1 := ⟨j - i - 1, by omega⟩
      exact main e i hi hj
  · intro h j hj
    refine ⟨?_, fun h0 => ?_⟩
    · rw [gd j hj]
      exact h.1 _ (List.getElem_mem hj)
    · rw [gd j hj, gd (j - 1) (by omega)]
      exact List.pairwise_iff_getElem.1 h.2 (j - 1) j (by omega) hj (by omega)
/-- What holds of a chain holds of the chain without one of its elements. -/
theorem chain_less {α : Type} {Q : α → Prop} {R : α → α → Prop} {l : List α} (h : (∀ x ∈ l, Q x) ∧ l.Pairwise R) (a b : Nat) (hab : a ≤ b) :
    (∀ x ∈ l.take a ++ l.drop b, Q x) ∧ (l.take a ++ l.drop b).Pairwise R := by
  have sub : (l.take a ++ l.drop b).Sublist l := by
    have h1 : (l.take a ++ l.drop b).Sublist (l.take a ++ l.drop a) := by
      apply List.Sublist.append (List.Sublist.refl _)
      rw [show b = a + (b - a) by omega, ← List.drop_drop]
      exact List.drop_sublist _ _
    rwa [List.take_append_drop] at h1
  exact ⟨fun x hx => h.1 x (sub.subset hx), h.2.sublist sub⟩
theorem go_all2 {α : Type} (F : Nat → Int → Option α) (n K : Nat) (r : α)
    (h1 : ∀ k j, K ≤ k → j < n → F (k + 1 + 1) (j : Int) = F k ((j + 1 : Nat) : Int))
    (h3 : ∀ k, K ≤ k → F (k + 1 + 1) (n : Int) = some r) : ∀ k, K + 2 * (n + 1) ≤ k → F k 0 = some r :=
  go_all F n K 2 r h1 h3
theorem any_ok {α : Type} (F : Nat → Int → Option α) (n K : Nat)
    (h1 : ∀ j, j < n → (∃ r, ∀ k, K ≤ k → F (k + 1) (j : Int) = some r) ∨ (∀ k, K ≤ k → F (k + 1) (j : Int) = F k ((j + 1 : Nat) : Int)))
    (h3 : ∃ r, ∀ k, K ≤ k → F (k + 1) (n : Int) = some r) : ∃ r, ∀ k, n + 1 + K ≤ k → F k 0 = some r := by
  have main : ∀ d i, i + d = n → ∃ r, ∀ k, d + 1 + K ≤ k → F k (i : Int) = some r := by
    intro d
    induction d with
    | zero =>
      intro i hi
      have hi : i = n := by omega
      subst hi
      obtain ⟨r, hr⟩ := h3
      refine ⟨r, fun k hk => ?_⟩
      obtain ⟨k, rfl⟩ : ∃ m, k = m + 1 := ⟨k - 1, by omega⟩
      exact hr k (by omega)
    | succ d ih =>
      intro i hi
      rcases h1 i (by omega) with ⟨r, hr⟩ | h
      · refine ⟨r, fun k hk => ?_⟩
        obtain ⟨k, rfl⟩ : ∃ m, k = m + 1 := ⟨k - 1, by omega⟩
        exact hr k (by omega)
      · obtain ⟨r, hr⟩ := ih (i + 1) (by omega)
        refine ⟨r, fun k hk => ?_⟩
        obtain ⟨k, rfl⟩ : ∃ m, k = m + 1 := ⟨k - 1, by omega⟩
        rw [h k (by omega)]
        exact hr k (by omega)
  exact main n 0 (by omega)

end Go.Proofs.Ytokphjnpkaipcaa.Pure
set_option linter.unusedVariables false
set_option linter.unusedSimpArgs false
namespace Go.Proofs.Ytokphjnpkaipcaa.Pure
open Go.RowKit Go.Proofs.Ytokphjnpkaipcaa.X Go.Proofs.YtokphjnpkaipcaaV.PrintWords Go.Proofs.YtokphjnpkaipcaaV.PrintLast Go.Proofs.YtokphjnpkaipcaaV.PrintMore

theorem l1In_eq (a lo hi : Int) : spec_l1In.f a lo hi = some (decide (lo ≤ a ∧ a ≤ hi)) := by
  unfold spec_l1In.f
  by_cases h : a ≥ lo
  · rw [if_pos h]
    by_cases g : a ≤ hi
    · rw [decide_eq_true g, decide_eq_true ⟨h, g⟩]
    · rw [decide_eq_false g, decide_eq_false (fun h' => g h'.2)]
  · rw [if_neg h, decide_eq_false (fun h' => h h'.1)]

end Go.Proofs.Ytokphjnpkaipcaa.Pure
set_option linter.unusedVariables false
set_option linter.unusedSimpArgs false
namespace Go.Proofs.Ytokphjnpkaipcaa.Pure
open Go.RowKit Go.Proofs.Ytokphjnpkaipcaa.X Go.Proofs.YtokphjnpkaipcaaV.PrintWords Go.Proofs.YtokphjnpkaipcaaV.PrintLast Go.Proofs.YtokphjnpkaipcaaV.PrintMore

theorem between_eq (a lo hi : Int) : impl_between.f a lo hi = some (decide (lo ≤ a ∧ a ≤ hi)) := by
  unfold impl_between.f
  by_cases h : a ≥ lo
  · rw [if_pos h]
    by_cases g : a ≤ hi
    · rw [decide_eq_true g, decide_eq_true ⟨h, g⟩]
    · rw [decide_eq_false g, decide_eq_false (fun h' => g h'.2)]
  · rw [if_neg h, decide_eq_false (fun h' => h h'.1)]

end Go.Proofs.Ytokphjnpkaipcaa.Pure
set_option linter.unusedVariables false
set_option linter.unusedSimpArgs false
namespace Go.Proofs.Ytokphjnpkaipcaa.Pure
open Go.RowKit Go.Proofs.Ytokphjnpkaipcaa.X Go.Proofs.YtokphjnpkaipcaaV.PrintWords Go.Proofs.YtokphjnpkaipcaaV.PrintLast Go.Proofs.YtokphjnpkaipcaaV.PrintMore

theorem toList_data (s : ByteArray) : s.toList = s.data.toList := ByteArray.toList_eq s
theorem data_size (s : ByteArray) : s.data.toList.length = s.size := by rw [Array.length_toList]; rfl
theorem nil_iff (s : ByteArray) : s.toList = ([] : List UInt8) ↔ s.size = 0 := by
  rw [toList_data, ← List.length_eq_zero_iff, data_size]
theorem nil_beq (s : ByteArray) : (s.toList == ([] : List UInt8)) = decide (s.size = 0) := by
  rw [Bool.eq_iff_iff, beq_iff_eq, nil_iff, decide_eq_true_iff]
/-- Small letters alone. -/
def Low (s : ByteArray) : Bool := s.data.toList.all fun c => decide (97 ≤ c.toNat ∧ c.toNat ≤ 122)
/-- A value: its kind, its number, its text. -/
def VOk (t n : Int) (s : ByteArray) : Bool :=
  decide (t = 0 ∧ n = 0 ∧ s.size = 0) || decide (t = 1 ∧ s.size = 0 ∧ -9999 ≤ n ∧ n ≤ 9999) || (decide (t = 2 ∧ n = 0 ∧ s.size ≤ 6) && Low s) || decide (t = 3 ∧ s.size = 0 ∧ 0 ≤ n ∧ n ≤ 1)
theorem letters_eq (s : ByteArray) (h : s.size ≤ 6) : impl_letters.f s = some (Low s) := by
  unfold impl_letters.f
  rw [if_pos (by omega)]
  rfl
theorem vok0 {t n : Int} {s : ByteArray} (ht : t = 0) : VOk t n s = decide (n = 0 ∧ s.size = 0) := by subst ht; simp [VOk]
theorem vok1 {t n : Int} {s : ByteArray} (ht : t = 1) : VOk t n s = decide (s.size = 0 ∧ -9999 ≤ n ∧ n ≤ 9999) := by subst ht; simp [VOk]
theorem vok2 {t n : Int} {s : ByteArray} (ht : t = 2) : VOk t n s = (decide (n = 0 ∧ s.size ≤ 6) && Low s) := by subst ht; simp [VOk]
theorem vok3 {t n : Int} {s : ByteArray} (ht : t = 3) : VOk t n s = decide (s.size = 0 ∧ 0 ≤ n ∧ n ≤ 1) := by subst ht; simp [VOk]
theorem vokx {t n : Int} {s : ByteArray} (h0 : ¬ t = 0) (h1 : ¬ t = 1) (h2 : ¬ t = 2) (h3 : ¬ t = 3) : VOk t n s = false := by simp [VOk, h0, h1, h2, h3]
theorem impl_ok (t n : Int) (s : ByteArray) : impl_Value_ok.f t n s = some (VOk t n s) := by
  unfold impl_Value_ok.f
  by_cases h0 : t = 0
  · rw [if_pos h0, vok0 h0, nil_beq]
    subst h0
    congr 1
    rw [Bool.eq_iff_iff]
    simp
  rw [if_neg h0]
  by_cases h1 : t = 1
  · rw [if_pos h1, vok1 h1]
    by_cases hs : s.size = 0
    · rw [if_pos ((nil_iff s).2 hs), between_eq]
      simp [hs]
    · rw [if_neg (fun h => hs ((nil_iff s).1 h))]
      simp [hs]
  rw [if_neg h1]
  by_cases h2 : t = 2
  · rw [if_pos h2, vok2 h2]
    by_cases hn : n = 0
    · rw [if_pos hn]
      by_cases hs : (s.size : Int) ≤ 6
      · rw [if_pos hs, letters_eq s (by omega)]
        have : s.size ≤ 6 := by omega
        simp [hn, this]
      · rw [if_neg hs]
        have : ¬ s.size ≤ 6 := by omega
        simp [this]
    · rw [if_neg hn]
      simp [hn]
  rw [if_neg h2]
  by_cases h3 : t = 3
  · rw [if_pos h3, vok3 h3]
    by_cases hs : s.size = 0
    · rw [if_pos ((nil_iff s).2 hs), between_eq]
      simp [hs]
    · rw [if_neg (fun h => hs ((nil_iff s).1 h))]
      simp [hs]
  · rw [if_neg h3, vokx h0 h1 h2 h3]
/-- What is known of a value. -/
theorem vok_cases {t n : Int} {s : ByteArray} (h : VOk t n s = true) :
    (t = 0 ∧ n = 0 ∧ s.size = 0) ∨ (t = 1 ∧ s.size = 0 ∧ -9999 ≤ n ∧ n ≤ 9999) ∨ (t = 2 ∧ n = 0 ∧ s.size ≤ 6 ∧ Low s = true) ∨ (t = 3 ∧ s.size = 0 ∧ 0 ≤ n ∧ n ≤ 1) := by
  simp only [VOk, Bool.or_eq_true, Bool.and_eq_true, decide_eq_true_eq] at h
  rcases h with ((h | h) | h) | h
  · exact .inl h
  · exact .inr (.inl h)
  · exact .inr (.inr (.inl ⟨h.1.1, h.1.2.1, h.1.2.2, h.2⟩))
  · exact .inr (.inr (.inr h))
theorem vok_size {t n : Int} {s : ByteArray} (h : VOk t n s = true) : s.size ≤ 6 := by
  rcases vok_cases h with h | h | h | h <;> omega
theorem vok_kind {t n : Int} {s : ByteArray} (h : VOk t n s = true) : 0 ≤ t ∧ t ≤ 3 := by
  rcases vok_cases h with h | h | h | h <;> omega
theorem vok_num {t n : Int} {s : ByteArray} (h : VOk t n s = true) : -9999 ≤ n ∧ n ≤ 9999 := by
  rcases vok_cases h with h | h | h | h <;> omega

end Go.Proofs.Ytokphjnpkaipcaa.Pure
set_option linter.unusedVariables false
set_option linter.unusedSimpArgs false
namespace Go.Proofs.Ytokphjnpkaipcaa.Pure
open Go.RowKit Go.Proofs.Ytokphjnpkaipcaa.X Go.Proofs.YtokphjnpkaipcaaV.PrintWords Go.Proofs.YtokphjnpkaipcaaV.PrintLast Go.Proofs.YtokphjnpkaipcaaV.PrintMore

theorem bt_nat (s : ByteArray) (i : Nat) (h : i < s.size) : bt s (i : Int) = ((s.data.toList.getD i 0).toNat : Int) := by
  have h1 : (i : Int).toNat < s.size := by omega
  rw [← bt_at s i h1]
  have h2 : i < s.data.toList.length := by rw [data_size]; exact h
  rw [List.getD_eq_getElem?_getD, List.getElem?_eq_getElem h2]
  rfl
theorem text_from (s : ByteArray) (hm : s.size ≤ 9223372036854775807) (d : Nat) : ∀ (k i : Nat), i + d = s.size → d < k →
    spec_l1Text.l0 k s (i : Int) = some (((s.data.toList.drop i).all fun c => decide (97 ≤ c.toNat ∧ c.toNat ≤ 122)) && decide (s.size ≤ 6)) := by
  induction d with
  | zero =>
    intro k i hi hk
    obtain ⟨k, rfl⟩ : ∃ m, k = m + 1 := ⟨k - 1, by omega⟩
    simp only [spec_l1Text.l0]
    rw [if_neg (by omega), List.drop_of_length_le (by rw [data_size]; omega)]
    congr 1
    rw [Bool.eq_iff_iff]
    simp
    omega
  | succ d ih =>
    intro k i hi hk
    obtain ⟨k, rfl⟩ : ∃ m, k = m + 1 := ⟨k - 1, by omega⟩
    have hl : i < s.data.toList.length := by rw [data_size]; omega
    simp only [spec_l1Text.l0]
    rw [if_pos (by omega), if_pos (by omega), bt_nat s i (by omega), List.drop_eq_getElem_cons hl, List.all_cons]
    have e : s.data.toList.getD i 0 = s.data.toList[i] := by rw [List.getD_eq_getElem?_getD, List.getElem?_eq_getElem hl]; rfl
    rw [e]
    generalize s.data.toList[i] = c
    by_cases h1 : (c.toNat : Int) < 97
    · rw [if_pos h1, decide_eq_false (by omega)]
      rfl
    · rw [if_neg h1]
      by_cases h2 : (c.toNat : Int) > 122
      · rw [if_pos h2, decide_eq_false (by omega)]
        rfl
      · rw [if_neg h2, decide_eq_true (by omega), Bool.true_and]
        have ew : wrap64 ((i : Int) + 1) = ((i + 1 : Nat) : Int) := by unfold wrap64; omega
        rw [ew]
        exact ih k (i + 1) (by omega) (by omega)
theorem text_eq (s : ByteArray) (hm : s.size ≤ maxLen) (k : Nat) (hk : s.size < k) : spec_l1Text.f k s = some (Low s && decide (s.size ≤ 6)) := by
  unfold spec_l1Text.f
  have := text_from s (by simpa [maxLen] using hm) s.size k 0 (by omega) hk
  rw [List.drop_zero] at this
  exact this
theorem spec_ok (t n : Int) (s : ByteArray) (hm : s.size ≤ maxLen) (k : Nat) (hk : s.size < k) : spec_ValueOk.f k t n s = some (VOk t n s) := by
  unfold spec_ValueOk.f
  by_cases h0 : t = 0
  · rw [if_pos h0, vok0 h0, nil_beq]
    by_cases hn : n = 0 <;> simp [hn]
  rw [if_neg h0]
  by_cases h1 : t = 1
  · rw [if_pos h1, vok1 h1, l1In_eq, nil_beq]
    by_cases hn : -9999 ≤ n ∧ n ≤ 9999 <;> simp [hn]
  rw [if_neg h1]
  by_cases h2 : t = 2
  · rw [if_pos h2, vok2 h2, text_eq s hm k hk]
    by_cases hn : n = 0 <;> simp [hn, Bool.and_comm]
  rw [if_neg h2]
  by_cases h3 : t = 3
  · rw [if_pos h3, vok3 h3, l1In_eq, nil_beq]
    by_cases hn : 0 ≤ n ∧ n ≤ 1 <;> simp [hn]
  · rw [if_neg h3, vokx h0 h1 h2 h3]

end Go.Proofs.Ytokphjnpkaipcaa.Pure
set_option linter.unusedVariables false
set_option linter.unusedSimpArgs false
namespace Go.Proofs.Ytokphjnpkaipcaa.Pure
open Go.RowKit Go.Proofs.Ytokphjnpkaipcaa.X Go.Proofs.YtokphjnpkaipcaaV.PrintWords Go.Proofs.YtokphjnpkaipcaaV.PrintLast Go.Proofs.YtokphjnpkaipcaaV.PrintMore

theorem rdV_nat (l : List S28) (j : Nat) : rd_T28 l (j : Int) = l.getD j z28 := rfl
theorem mem_getD {α : Type} (l : List α) (d : α) (j : Nat) (hj : j < l.length) : l.getD j d ∈ l := by
  rw [List.getD_eq_getElem?_getD, List.getElem?_eq_getElem hj]
  exact List.getElem_mem hj
theorem all_mem {α : Type} (l : List α) (d : α) (P : α → Prop) : (∀ j, j < l.length → P (l.getD j d)) ↔ ∀ x ∈ l, P x := by
  constructor
  · intro h x hx
    obtain ⟨j, hj, rfl⟩ := List.getElem_of_mem hx
    have := h j hj
    rw [List.getD_eq_getElem?_getD, List.getElem?_eq_getElem hj] at this
    exact this
  · intro h j hj
    exact h _ (mem_getD l d j hj)
abbrev OkV (x : S28) : Prop := VOk x.f0 x.f1 x.f2 = true
theorem small_max {n : Nat} (h : n ≤ 1048576) : n ≤ maxLen := Nat.le_trans h (by decide)
theorem spec_row (l : List S28) (hl : l.length ≤ 1000000000) (hz : ∀ x ∈ l, x.f2.size ≤ 1048576) : ∃ b, (∀ k, l.length + 1048580 ≤ k → spec_RowOk.f k l = some b) ∧ (b = true ↔ ((∀ x ∈ l, OkV x) ∧ l.length ≤ 4)) := by
  obtain ⟨b, hb, hb'⟩ := scan_all (fun k i => spec_RowOk.l0 k l i) l.length 1048577 (fun j => OkV (l.getD j z28)) (decide ((l.length : Int) ≤ 4))
    (by
      intro k j hk hj g
      have hs := hz _ (mem_getD l z28 j hj)
      show spec_RowOk.l0 (k + 1) l j = _
      rw [spec_RowOk.l0, if_pos (by omega), if_pos (by omega), rdV_nat, spec_ok _ _ _ (small_max hs) _ (by omega), Option.bind_some, if_pos g, show wrap64 ((j : Int) + 1) = ((j + 1 : Nat) : Int) by rw [w64g (by omega)]; omega])
    (by
      intro k j hk hj g
      have hs := hz _ (mem_getD l z28 j hj)
      show spec_RowOk.l0 (k + 1) l j = _
      rw [spec_RowOk.l0, if_pos (by omega), if_pos (by omega), rdV_nat, spec_ok _ _ _ (small_max hs) _ (by omega), Option.bind_some, if_neg g])
    (by
      intro k _
      show spec_RowOk.l0 (k + 1) l l.length = _
      rw [spec_RowOk.l0, if_neg (by omega)])
  refine ⟨b, fun k hk => hb k (by omega), ?_⟩
  rw [hb', decide_eq_true_iff, all_mem l z28 OkV]
  exact ⟨fun h => ⟨h.1, by omega⟩, fun h => ⟨h.1, by omega⟩⟩
theorem impl_row (l : List S28) : ∃ b, impl_RowOk.f l = some b ∧ (b = true ↔ ((∀ x ∈ l, OkV x) ∧ l.length ≤ 4)) := by
  have hq : ∀ c, impl_RowOk.q c = some (VOk c.f0 c.f1 c.f2) := fun c => impl_ok _ _ _
  have ho : ∀ c, impl_RowOk.ok c = VOk c.f0 c.f1 c.f2 := fun c => by unfold impl_RowOk.ok; rw [hq]; rfl
  refine ⟨decide (l.length ≤ 4) && l.all impl_RowOk.ok, ?_, ?_⟩
  · unfold impl_RowOk.f
    rw [if_pos (List.all_eq_true.2 fun c _ => by rw [hq]; rfl)]
  · rw [Bool.and_eq_true, decide_eq_true_iff, List.all_eq_true]
    constructor
    · intro h
      exact ⟨fun x hx => by have := h.2 x hx; rwa [ho] at this, h.1⟩
    · intro h
      exact ⟨h.2, fun x hx => by rw [ho]; exact h.1 x hx⟩
theorem eqValueS_eq (l : List S28) (hl : l.length ≤ 1000000000) : ∀ k, l.length + 1 ≤ k → laws_eqValueS.f k l l = some true := by
  intro k hk
  unfold laws_eqValueS.f
  rw [if_pos rfl]
  refine go_all (fun k i => laws_eqValueS.l0 k l l i) l.length 0 1 true ?_ ?_ k (by omega)
  · intro k j _ hj
    show laws_eqValueS.l0 (k + 1) l l j = _
    rw [laws_eqValueS.l0, if_pos (by omega), if_pos (by omega), if_pos (by omega), laws_eqValue.f, if_pos rfl, if_pos rfl, if_pos rfl, Option.bind_some, if_pos rfl, show wrap64 ((j : Int) + 1) = ((j + 1 : Nat) : Int) by rw [w64g (by omega)]; omega]
  · intro k _
    show laws_eqValueS.l0 (k + 1) l l l.length = _
    rw [laws_eqValueS.l0, if_neg (by omega)]

end Go.Proofs.Ytokphjnpkaipcaa.Pure
set_option linter.unusedVariables false
set_option linter.unusedSimpArgs false
namespace Go.Proofs.Ytokphjnpkaipcaa.Pure
open Go.RowKit Go.Proofs.Ytokphjnpkaipcaa.X Go.Proofs.YtokphjnpkaipcaaV.PrintWords Go.Proofs.YtokphjnpkaipcaaV.PrintLast Go.Proofs.YtokphjnpkaipcaaV.PrintMore

theorem draw_cols_loop {s : List Int} (hs : Bytes s) (n : Int) (hn : n ≤ 1000) : ∀ (d : Nat) (l : List S73) (p : Int), 0 ≤ p → p + 2 * d ≤ 90000 → d ≤ 6 → l.length + d ≤ 6 →
    ∃ r p', (∀ k, d + 3 ≤ k → spec_l20Columns.l0 k n l (d : Int) s p = some (r, p')) ∧ r.length ≤ 10 ∧ 0 ≤ p' ∧ p' ≤ p + 2 * d + 2 := by
  intro d
  induction d with
  | zero =>
    intro l p hp hp2 _ hz
    obtain ⟨b, p1, hb, h0, h1, _⟩ := odd_ok hs p n hp (by omega) (by omega)
    cases b with
    | false =>
      refine ⟨l, p1, fun k hk => ?_, by omega, by omega, by omega⟩
      obtain ⟨k, rfl⟩ : ∃ m, k = m + 1 := ⟨k - 1, by omega⟩
      rw [spec_l20Columns.l0, if_neg (by decide), hb k (by omega), Option.bind_some]
      rfl
    | true =>
      obtain ⟨c, hc, _⟩ := pick_ok hs p1 6 h0 (by omega) (by decide)
      refine ⟨l ++ [⟨wrap64 (c - 1), false⟩, ⟨1, false⟩, ⟨1, false⟩], p1 + 1, fun k hk => ?_, by rw [List.length_append]; simp; omega, by omega, by omega⟩
      obtain ⟨k, rfl⟩ : ∃ m, k = m + 1 := ⟨k - 1, by omega⟩
      rw [spec_l20Columns.l0, if_neg (by decide), hb k (by omega), Option.bind_some, if_pos rfl, hc k (by omega), Option.bind_some, Option.bind_some, if_pos (by simp only [List.length_cons, List.length_nil]; omega)]
  | succ d ih =>
    intro l p hp hp2 hd hz
    obtain ⟨c, hc, c0, c1, _⟩ := pick_ok hs p 4 hp (by omega) (by decide)
    have c1 := c1 (by decide)
    obtain ⟨c2, hc2, _⟩ := pick_ok hs (p + 1) 3 (by omega) (by omega) (by decide)
    obtain ⟨r, p', hr, h2, h3, h4⟩ := ih (l ++ [⟨rd [1, 1, 2, 3] c, decide (c2 > 0)⟩]) (p + 1 + 1) (by omega) (by omega) (by omega) (by rw [List.length_append]; simp; omega)
    refine ⟨r, p', fun k hk => ?_, h2, h3, by omega⟩
    obtain ⟨k, rfl⟩ : ∃ m, k = m + 1 := ⟨k - 1, by omega⟩
    rw [spec_l20Columns.l0, if_pos (by omega), Option.bind_some, hc k (by omega), Option.bind_some, if_pos c0, if_pos (show c < (([1, 1, 2, 3] : List Int).length : Int) from c1), hc2 k (by omega), Option.bind_some, if_pos (by omega), show wrap64 (((d + 1 : Nat) : Int) - 1) = (d : Int) by rw [w64g (by omega)]; omega]
    exact hr k (by omega)
theorem draw_cols {s : List Int} (hb : Bytes s) (p n : Int) (hp : 0 ≤ p) (hp2 : p ≤ 80000) (hn : n ≤ 1000) : ∃ r p', (∀ k, 20 ≤ k → spec_l20Columns.f k s p n = some (r, p')) ∧ r.length ≤ 10 ∧ 0 ≤ p' ∧ p' ≤ p + 20 := by
  obtain ⟨c, hc, c0, c1, _⟩ := pick_ok hb p 3 hp (by omega) (by decide)
  have c1 := c1 (by decide)
  obtain ⟨e, rfl⟩ := Int.eq_ofNat_of_zero_le c0
  obtain ⟨r, p', hr, h2, h3, h4⟩ := draw_cols_loop hb n hn (e + 1) [] (p + 1) (by omega) (by omega) (by omega) (by simp; omega)
  refine ⟨r, p', fun k hk => ?_, h2, h3, by omega⟩
  unfold spec_l20Columns.f
  rw [hc k (by omega), Option.bind_some, show wrap64 (1 + (e : Int)) = ((e + 1 : Nat) : Int) by rw [w64g (by omega)]; omega]
  exact hr k (by omega)

end Go.Proofs.Ytokphjnpkaipcaa.Pure
set_option linter.unusedVariables false
set_option linter.unusedSimpArgs false
namespace Go.Proofs.Ytokphjnpkaipcaa.Pure
open Go.RowKit Go.Proofs.Ytokphjnpkaipcaa.X Go.Proofs.YtokphjnpkaipcaaV.PrintWords Go.Proofs.YtokphjnpkaipcaaV.PrintLast Go.Proofs.YtokphjnpkaipcaaV.PrintMore

theorem size_app (a b : ByteArray) : (a ++ b).size = a.size + b.size := ByteArray.size_append
theorem strOf_one (x : Int) : (strOfNums [x]).size = 1 := rfl
def Some4 (g : Nat → Option (Int × Int × ByteArray × Int)) (K : Nat) (p b : Int) : Prop :=
  ∃ t n s p', (∀ k, K ≤ k → g k = some (t, n, s, p')) ∧ p ≤ p' ∧ p' ≤ b ∧ s.size ≤ 40
theorem draw3 {l : List Int} (hs : Bytes l) (n0 p t n : Int) (s : ByteArray) (hn0 : n0 ≤ 1000) (hp : 0 ≤ p) (hp2 : p ≤ 100000) (hz : s.size ≤ 20) :
    Some4 (fun k => spec_l20Value.j3 k n0 l p t n s) 2 p (p + 3) := by
  obtain ⟨b, p1, hb, h0, h1, _⟩ := odd_ok hs p n0 hp (by omega) (by omega)
  have hp1 : p ≤ p1 := by
    have := hb 1 (by decide)
    unfold spec_l20Rd_odd.f at this
    by_cases hn : n0 > 0
    · rw [if_pos hn] at this
      obtain ⟨r, hr, _⟩ := pick_ok hs p n0 hp (by omega) (by omega)
      rw [hr 1 (by decide)] at this
      simp only [Option.bind_some, Option.some.injEq, Prod.mk.injEq] at this
      omega
    · rw [if_neg hn] at this
      simp only [Option.some.injEq, Prod.mk.injEq] at this
      omega
  cases b with
  | false =>
    refine ⟨t, n, s, p1, fun k hk => ?_, hp1, by omega, by omega⟩
    obtain ⟨k, rfl⟩ : ∃ m, k = m + 1 := ⟨k - 1, by omega⟩
    simp only [spec_l20Value.j3]
    rw [hb k (by omega)]
    rfl
  | true =>
    obtain ⟨r, hr, r0, r1, _⟩ := pick_ok hs p1 4 h0 (by omega) (by decide)
    have r1 := r1 (by decide)
    obtain ⟨r2, hr2, _⟩ := pick_ok hs (p1 + 1) 7 (by omega) (by omega) (by decide)
    have e7 : (⟨#[97, 98, 99, 100, 101, 102, 103]⟩ : ByteArray).size = 7 := rfl
    have e1 : (⟨#[65]⟩ : ByteArray).size = 1 := rfl
    have hu : ∀ k, 1 ≤ k → spec_l20Value.j3 (k + 1) n0 l p t n s = if r = 0 then some (t, 10000, s, p1 + 1) else if r = 1 then some (t, n, s ++ (⟨#[97, 98, 99, 100, 101, 102, 103]⟩ : ByteArray), p1 + 1) else if r = 2 then some (wrap64 (r2 - 1), n, s, p1 + 1 + 1) else some (t, n, s ++ (⟨#[65]⟩ : ByteArray), p1 + 1) := by
      intro k hk
      simp only [spec_l20Value.j3]
      rw [hb k hk]
      simp only [Option.bind_some, if_true]
      rw [hr k hk]
      simp only [Option.bind_some]
      rw [hr2 k hk, if_pos (show s.size + 7 ≤ 9223372036854775807 by omega), if_pos (show s.size + 1 ≤ 9223372036854775807 by omega)]
      simp only [Option.bind_some]
    have hg : ∀ q : Int × Int × ByteArray × Int, (∀ k, 1 ≤ k → spec_l20Value.j3 (k + 1) n0 l p t n s = some q) → p ≤ q.2.2.2 → q.2.2.2 ≤ p + 3 → q.2.2.1.size ≤ 40 → Some4 (fun k => spec_l20Value.j3 k n0 l p t n s) 2 p (p + 3) := by
      intro q hq ha hb hc
      refine ⟨q.1, q.2.1, q.2.2.1, q.2.2.2, fun k hk => ?_, ha, hb, hc⟩
      obtain ⟨k, rfl⟩ : ∃ m, k = m + 1 := ⟨k - 1, by omega⟩
      exact hq k (by omega)
    by_cases c0 : r = 0
    · exact hg (t, 10000, s, p1 + 1) (fun k hk => by rw [hu k hk, if_pos c0]) (by show p ≤ p1 + 1; omega) (by show p1 + 1 ≤ p + 3; omega) (by show s.size ≤ 40; omega)
    by_cases c1 : r = 1
    · exact hg (t, n, s ++ (⟨#[97, 98, 99, 100, 101, 102, 103]⟩ : ByteArray), p1 + 1) (fun k hk => by rw [hu k hk, if_neg c0, if_pos c1]) (by show p ≤ p1 + 1; omega) (by show p1 + 1 ≤ p + 3; omega) (by show (s ++ _).size ≤ 40; rw [size_app, e7]; omega)
    by_cases c2 : r = 2
    · exact hg (wrap64 (r2 - 1), n, s, p1 + 1 + 1) (fun k hk => by rw [hu k hk, if_neg c0, if_neg c1, if_pos c2]) (by show p ≤ p1 + 1 + 1; omega) (by show p1 + 1 + 1 ≤ p + 3; omega) (by show s.size ≤ 40; omega)
    · exact hg (t, n, s ++ (⟨#[65]⟩ : ByteArray), p1 + 1) (fun k hk => by rw [hu k hk, if_neg c0, if_neg c1, if_neg c2]) (by show p ≤ p1 + 1; omega) (by show p1 + 1 ≤ p + 3; omega) (by show (s ++ _).size ≤ 40; rw [size_app, e1]; omega)
theorem draw_text {l : List Int} (hs : Bytes l) (n0 t n : Int) (hn0 : n0 ≤ 1000) (d : Nat) : ∀ (p : Int) (s : ByteArray), 0 ≤ p → p + d ≤ 99000 → d ≤ 10 → s.size + d ≤ 20 →
    Some4 (fun k => spec_l20Value.l0 k n0 (d : Int) l p t n s) (d + 3) p (p + d + 3) := by
  induction d with
  | zero =>
    intro p s hp hp2 _ hz
    obtain ⟨t', n', s', p', hk', h1, h2, h3⟩ := draw3 hs n0 p t n s hn0 hp (by omega) (by omega)
    refine ⟨t', n', s', p', fun k hk => ?_, h1, by omega, h3⟩
    obtain ⟨k, rfl⟩ : ∃ m, k = m + 1 := ⟨k - 1, by omega⟩
    simp only [spec_l20Value.l0]
    rw [if_neg (by decide)]
    exact hk' k (by omega)
  | succ d ih =>
    intro p s hp hp2 hd hz
    obtain ⟨r, hr, _⟩ := pick_ok hs p 3 hp (by omega) (by decide)
    have hsz : (s ++ strOfNums [(wrap64 (97 + r)) % 256]).size = s.size + 1 := by rw [size_app, strOf_one]
    obtain ⟨t', n', s', p', hk', h1, h2, h3⟩ := ih (p + 1) (s ++ strOfNums [(wrap64 (97 + r)) % 256]) (by omega) (by omega) (by omega) (by omega)
    refine ⟨t', n', s', p', fun k hk => ?_, by omega, by omega, h3⟩
    obtain ⟨k, rfl⟩ : ∃ m, k = m + 1 := ⟨k - 1, by omega⟩
    simp only [spec_l20Value.l0]
    rw [if_pos (by omega), hr k (by omega)]
    simp only [Option.bind_some]
    rw [strOf_one, if_pos (by omega), show wrap64 (((d + 1 : Nat) : Int) - 1) = (d : Int) by rw [w64 (by omega)]; omega]
    exact hk' k (by omega)
theorem draw_ok {l : List Int} (hs : Bytes l) (p n0 : Int) (hp : 0 ≤ p) (hp2 : p ≤ 90000) (hn0 : n0 ≤ 1000) :
    Some4 (fun k => spec_l20Value.f k l p n0) 20 p (p + 20) := by
  obtain ⟨r, hr, r0, r1, _⟩ := pick_ok hs p 7 hp (by omega) (by decide)
  have r1 := r1 (by decide)
  have hu : ∀ k, 1 ≤ k → spec_l20Value.f k l p n0 = (if r = 0 then (spec_l20Value.j3 k n0 l (p + 1) 0 0 (⟨#[]⟩ : ByteArray)) else (if r = 1 then (spec_l20Value.j0 k n0 r (r == 1) l (p + 1)) else (if r = 2 then (spec_l20Value.j0 k n0 r (r == 2) l (p + 1)) else (spec_l20Value.j0 k n0 r (r == 3) l (p + 1))))) := by
    intro k hk
    unfold spec_l20Value.f
    rw [hr k hk]
    rfl
  have e0 : (⟨#[]⟩ : ByteArray).size = 0 := rfl
  -- a number
  have num : Some4 (fun k => spec_l20Value.j0 k n0 r true l (p + 1)) 10 (p + 1) (p + 20) := by
    obtain ⟨a, ha, a0, a1, _⟩ := pick_ok hs (p + 1) 7 (by omega) (by omega) (by decide)
    obtain ⟨b, hb, _⟩ := pick_ok hs (p + 1 + 1) 8 (by omega) (by omega) (by decide)
    obtain ⟨c, hc, c0, c1, _⟩ := pick_ok hs (p + 1 + 1 + 1) 5 (by omega) (by omega) (by decide)
    have c1 := c1 (by decide)
    by_cases hb0 : b = 0
    · obtain ⟨t', n', s', p', hk', h1, h2, h3⟩ := draw3 hs n0 (p + 1 + 1 + 1 + 1) 1 (rd [9999, -9999, 255, 256, -256] c) ⟨#[]⟩ hn0 (by omega) (by omega) (by rw [e0]; omega)
      refine ⟨t', n', s', p', fun k hk => ?_, by omega, by omega, h3⟩
      obtain ⟨k, rfl⟩ : ∃ m, k = m + 1 := ⟨k - 1, by omega⟩
      simp only [spec_l20Value.j0]
      rw [if_pos (by decide), ha k (by omega)]
      simp only [Option.bind_some]
      rw [hb k (by omega)]
      simp only [Option.bind_some]
      rw [if_pos hb0, hc k (by omega)]
      simp only [Option.bind_some]
      rw [if_pos c0, if_pos (show c < ((([9999, -9999, 255, 256, -256] : List Int).length : Nat) : Int) from c1)]
      exact hk' k (by omega)
    · obtain ⟨t', n', s', p', hk', h1, h2, h3⟩ := draw3 hs n0 (p + 1 + 1 + 1) 1 (wrap64 (a - 3)) ⟨#[]⟩ hn0 (by omega) (by omega) (by rw [e0]; omega)
      refine ⟨t', n', s', p', fun k hk => ?_, by omega, by omega, h3⟩
      obtain ⟨k, rfl⟩ : ∃ m, k = m + 1 := ⟨k - 1, by omega⟩
      simp only [spec_l20Value.j0]
      rw [if_pos (by decide), ha k (by omega)]
      simp only [Option.bind_some]
      rw [hb k (by omega)]
      simp only [Option.bind_some]
      rw [if_neg hb0]
      exact hk' k (by omega)
  -- a text
  have text : Some4 (fun k => spec_l20Value.j1 k n0 true l (p + 1)) 15 (p + 1) (p + 20) := by
    obtain ⟨a, ha, a0, a1, _⟩ := pick_ok hs (p + 1) 4 (by omega) (by omega) (by decide)
    have a1 := a1 (by decide)
    obtain ⟨d, rfl⟩ := Int.eq_ofNat_of_zero_le a0
    obtain ⟨t', n', s', p', hk', h1, h2, h3⟩ := draw_text hs n0 2 0 hn0 d (p + 1 + 1) ⟨#[]⟩ (by omega) (by omega) (by omega) (by rw [e0]; omega)
    refine ⟨t', n', s', p', fun k hk => ?_, by omega, by omega, h3⟩
    obtain ⟨k, rfl⟩ : ∃ m, k = m + 1 := ⟨k - 1, by omega⟩
    simp only [spec_l20Value.j1]
    rw [if_pos (by decide), ha k (by omega)]
    simp only [Option.bind_some]
    exact hk' k (by omega)
  -- a truth
  have truth : Some4 (fun k => spec_l20Value.j1 k n0 false l (p + 1)) 15 (p + 1) (p + 20) := by
    obtain ⟨a, ha, _⟩ := pick_ok hs (p + 1) 2 (by omega) (by omega) (by decide)
    obtain ⟨t', n', s', p', hk', h1, h2, h3⟩ := draw3 hs n0 (p + 1 + 1) 3 a ⟨#[]⟩ hn0 (by omega) (by omega) (by rw [e0]; omega)
    refine ⟨t', n', s', p', fun k hk => ?_, by omega, by omega, h3⟩
    obtain ⟨k, rfl⟩ : ∃ m, k = m + 1 := ⟨k - 1, by omega⟩
    simp only [spec_l20Value.j1]
    rw [if_neg (by decide), ha k (by omega)]
    simp only [Option.bind_some]
    exact hk' k (by omega)
  by_cases c0 : r = 0
  · obtain ⟨t', n', s', p', hk', h1, h2, h3⟩ := draw3 hs n0 (p + 1) 0 0 ⟨#[]⟩ hn0 (by omega) (by omega) (by rw [e0]; omega)
    refine ⟨t', n', s', p', fun k hk => ?_, by omega, by omega, h3⟩
    show spec_l20Value.f k l p n0 = _
    rw [hu k (by omega), if_pos c0]
    exact hk' k (by omega)
  by_cases c3 : r = 1 ∨ r = 2 ∨ r = 3
  · obtain ⟨t', n', s', p', hk', h1, h2, h3⟩ := num
    refine ⟨t', n', s', p', fun k hk => ?_, by omega, h2, h3⟩
    show spec_l20Value.f k l p n0 = _
    rw [hu k (by omega), if_neg c0]
    rcases c3 with rfl | rfl | rfl
    · exact hk' k (by omega)
    · exact hk' k (by omega)
    · exact hk' k (by omega)
  · have hj : ∀ k, 1 ≤ k → spec_l20Value.f (k + 1) l p n0 = spec_l20Value.j1 k n0 (r == 4 || r == 5) l (p + 1) := by
      intro k hk
      rw [hu (k + 1) (by omega), if_neg c0, if_neg (by omega), if_neg (by omega), beq_eq_false_iff_ne.2 (show r ≠ 3 by omega)]
      simp only [spec_l20Value.j0]
      rw [if_neg (by decide)]
      by_cases c4 : r = 4
      · rw [if_pos c4, c4]
        rfl
      · rw [if_neg c4, beq_eq_false_iff_ne.2 c4, Bool.false_or]
    by_cases c4 : r = 4 ∨ r = 5
    · obtain ⟨t', n', s', p', hk', h1, h2, h3⟩ := text
      refine ⟨t', n', s', p', fun k hk => ?_, by omega, h2, h3⟩
      obtain ⟨k, rfl⟩ : ∃ m, k = m + 1 := ⟨k - 1, by omega⟩
      show spec_l20Value.f (k + 1) l p n0 = _
      rw [hj k (by omega), show (r == 4 || r == 5) = true by rcases c4 with rfl | rfl <;> rfl]
      exact hk' k (by omega)
    · obtain ⟨t', n', s', p', hk', h1, h2, h3⟩ := truth
      refine ⟨t', n', s', p', fun k hk => ?_, by omega, h2, h3⟩
      obtain ⟨k, rfl⟩ : ∃ m, k = m + 1 := ⟨k - 1, by omega⟩
      show spec_l20Value.f (k + 1) l p n0 = _
      rw [hj k (by omega), show (r == 4 || r == 5) = false by rw [beq_eq_false_iff_ne.2 (show r ≠ 4 by omega), beq_eq_false_iff_ne.2 (show r ≠ 5 by omega)]; rfl]
      exact hk' k (by omega)

end Go.Proofs.Ytokphjnpkaipcaa.Pure
set_option linter.unusedVariables false
set_option linter.unusedSimpArgs false
namespace Go.Proofs.Ytokphjnpkaipcaa.Pure
open Go.RowKit Go.Proofs.Ytokphjnpkaipcaa.X Go.Proofs.YtokphjnpkaipcaaV.PrintWords Go.Proofs.YtokphjnpkaipcaaV.PrintLast Go.Proofs.YtokphjnpkaipcaaV.PrintMore

theorem like_j0 {s : List Int} (hs : Bytes s) (b : Bool) (p : Int) (hp : 0 ≤ p) (hp2 : p ≤ 90000) (f0 : Int) (f1 : Bool) : Some4 (fun k => spec_l20Like.j0 k b s p f0 f1) 3 p (p + 1) := by
  by_cases hb : b = true
  · refine ⟨0, 0, ⟨#[]⟩, p, fun k hk => ?_, Int.le_refl _, by omega, by decide⟩
    obtain ⟨k, rfl⟩ : ∃ m, k = m + 1 := ⟨k - 1, by omega⟩
    show spec_l20Like.j0 (k + 1) b s p f0 f1 = _
    rw [spec_l20Like.j0, if_pos hb]
  by_cases h1 : f0 = 1
  · obtain ⟨r, hr, _⟩ := pick_ok hs p 4 hp (by omega) (by decide)
    refine ⟨1, r, ⟨#[]⟩, p + 1, fun k hk => ?_, by omega, by omega, by decide⟩
    obtain ⟨k, rfl⟩ : ∃ m, k = m + 1 := ⟨k - 1, by omega⟩
    show spec_l20Like.j0 (k + 1) b s p f0 f1 = _
    rw [spec_l20Like.j0, if_neg hb, if_pos h1, hr k (by omega), Option.bind_some]
  by_cases h2 : f0 = 2
  · obtain ⟨r, hr, r0, r1, _⟩ := pick_ok hs p 4 hp (by omega) (by decide)
    have r1 := r1 (by decide)
    refine ⟨2, 0, rdOf ByteArray.empty [⟨#[]⟩, ⟨#[97]⟩, ⟨#[98]⟩, ⟨#[97, 98]⟩] r, p + 1, fun k hk => ?_, by omega, by omega, ?_⟩
    · obtain ⟨k, rfl⟩ : ∃ m, k = m + 1 := ⟨k - 1, by omega⟩
      show spec_l20Like.j0 (k + 1) b s p f0 f1 = _
      rw [spec_l20Like.j0, if_neg hb, if_neg h1, if_pos h2, Option.bind_some, hr k (by omega), Option.bind_some, if_pos r0, if_pos (show r < (([⟨#[]⟩, ⟨#[97]⟩, ⟨#[98]⟩, ⟨#[97, 98]⟩] : List ByteArray).length : Int) from r1)]
    · have : r = 0 ∨ r = 1 ∨ r = 2 ∨ r = 3 := by omega
      rcases this with rfl | rfl | rfl | rfl <;> decide
  · obtain ⟨r, hr, _⟩ := pick_ok hs p 2 hp (by omega) (by decide)
    refine ⟨3, r, ⟨#[]⟩, p + 1, fun k hk => ?_, by omega, by omega, by decide⟩
    obtain ⟨k, rfl⟩ : ∃ m, k = m + 1 := ⟨k - 1, by omega⟩
    show spec_l20Like.j0 (k + 1) b s p f0 f1 = _
    rw [spec_l20Like.j0, if_neg hb, if_neg h1, if_neg h2, hr k (by omega), Option.bind_some]
theorem like_ok {s : List Int} (hs : Bytes s) (p : Int) (hp : 0 ≤ p) (hp2 : p ≤ 80000) (f0 : Int) (f1 : Bool) : Some4 (fun k => spec_l20Like.f k s p f0 f1) 3 p (p + 2) := by
  by_cases h : f1 = true
  · obtain ⟨r, hr, _⟩ := pick_ok hs p 5 hp (by omega) (by decide)
    obtain ⟨t, n, x, p', hk', h1, h2, h3⟩ := like_j0 hs (r == 0) (p + 1) (by omega) (by omega) f0 f1
    refine ⟨t, n, x, p', fun k hk => ?_, by omega, by omega, h3⟩
    show spec_l20Like.f k s p f0 f1 = _
    unfold spec_l20Like.f
    rw [if_pos h, hr k (by omega), Option.bind_some]
    exact hk' k hk
  · obtain ⟨t, n, x, p', hk', h1, h2, h3⟩ := like_j0 hs false p (by omega) (by omega) f0 f1
    refine ⟨t, n, x, p', fun k hk => ?_, by omega, by omega, h3⟩
    show spec_l20Like.f k s p f0 f1 = _
    unfold spec_l20Like.f
    rw [if_neg h]
    exact hk' k hk
def Short (l : List S28) : Prop := ∀ x ∈ l, x.f2.size ≤ 40
theorem short_app {a b : List S28} (h : Short a) (h' : Short b) : Short (a ++ b) := by
  intro x hx
  rcases List.mem_append.1 hx with g | g
  · exact h x g
  · exact h' x g
theorem short_one {x : S28} (h : x.f2.size ≤ 40) : Short [x] := by
  intro y hy
  rw [List.mem_singleton.1 hy]
  exact h
theorem fit_end {s : List Int} (hs : Bytes s) (c : List S73) (m : Int) (hm : m ≤ 1000) (x7 : List S28) (p : Int) (hp : 0 ≤ p) (hp2 : p ≤ 50000) (hx : x7.length ≤ 10) (hsh : Short x7) :
    ∃ r p', (∀ k, 40 ≤ k → spec_l20Fit.l0 k c m x7 (c.length : Int) s p = some (r, p')) ∧ r.length ≤ 20 ∧ Short r := by
  obtain ⟨b, p1, hb, h0, h1, _⟩ := odd_ok hs p m hp (by omega) (by omega)
  cases b with
  | false =>
    refine ⟨x7, p1, fun k hk => ?_, by omega, hsh⟩
    obtain ⟨k, rfl⟩ : ∃ m, k = m + 1 := ⟨k - 1, by omega⟩
    rw [spec_l20Fit.l0, if_neg (by omega), hb k (by omega), Option.bind_some, if_neg Bool.false_ne_true]
  | true =>
    obtain ⟨q, hq, _⟩ := pick_ok hs p1 3 h0 (by omega) (by decide)
    by_cases e0 : q = 0
    · refine ⟨x7 ++ [⟨0, 0, ⟨#[]⟩⟩], p1 + 1, fun k hk => ?_, by rw [List.length_append]; simp; omega, short_app hsh (short_one (by decide))⟩
      obtain ⟨k, rfl⟩ : ∃ m, k = m + 1 := ⟨k - 1, by omega⟩
      rw [spec_l20Fit.l0, if_neg (by omega), hb k (by omega), Option.bind_some, if_pos rfl, hq k (by omega), Option.bind_some, if_pos e0, if_pos (by omega)]
    by_cases e1 : q = 1
    · by_cases e2 : (x7.length : Int) > 0
      · obtain ⟨i, hi, i0, i1, _⟩ := pick_ok hs (p1 + 1) (x7.length : Int) (by omega) (by omega) (by omega)
        have i1 := i1 (by omega)
        obtain ⟨t, n, x, p2, hk2, _, _, hx2⟩ := draw_ok hs (p1 + 1 + 1) 3 (by omega) (by omega) (by decide)
        refine ⟨x7.set i.toNat ⟨t, n, x⟩, p2, fun k hk => ?_, by rw [List.length_set]; omega, ?_⟩
        · obtain ⟨k, rfl⟩ : ∃ m, k = m + 1 := ⟨k - 1, by omega⟩
          have hd : spec_l20Value.f k s (p1 + 1 + 1) 3 = some (t, n, x, p2) := hk2 k (by omega)
          rw [spec_l20Fit.l0, if_neg (by omega), hb k (by omega), Option.bind_some, if_pos rfl, hq k (by omega), Option.bind_some, if_neg e0, if_pos e1, if_pos e2, hi k (by omega), Option.bind_some, hd, Option.bind_some, if_pos i0, if_pos i1]
        · intro y hy
          rcases List.mem_or_eq_of_mem_set hy with g | g
          · exact hsh y g
          · rw [g]
            exact hx2
      · refine ⟨x7, p1 + 1, fun k hk => ?_, by omega, hsh⟩
        obtain ⟨k, rfl⟩ : ∃ m, k = m + 1 := ⟨k - 1, by omega⟩
        rw [spec_l20Fit.l0, if_neg (by omega), hb k (by omega), Option.bind_some, if_pos rfl, hq k (by omega), Option.bind_some, if_neg e0, if_pos e1, if_neg e2]
    · obtain ⟨t, n, x, p2, hk2, a2, b2, hx2⟩ := draw_ok hs (p1 + 1) 0 (by omega) (by omega) (by decide)
      obtain ⟨t3, n3, x3, p3, hk3, a3, b3, hx3⟩ := draw_ok hs p2 0 (by omega) (by omega) (by decide)
      obtain ⟨t4, n4, x4, p4, hk4, a4, b4, hx4⟩ := draw_ok hs p3 0 (by omega) (by omega) (by decide)
      refine ⟨x7 ++ [⟨t, n, x⟩, ⟨t3, n3, x3⟩, ⟨t4, n4, x4⟩], p4, fun k hk => ?_, by rw [List.length_append]; simp; omega, short_app hsh (short_app (short_one hx2) (short_app (short_one hx3) (short_one hx4)))⟩
      obtain ⟨k, rfl⟩ : ∃ m, k = m + 1 := ⟨k - 1, by omega⟩
      have hd2 : spec_l20Value.f k s (p1 + 1) 0 = some (t, n, x, p2) := hk2 k (by omega)
      have hd3 : spec_l20Value.f k s p2 0 = some (t3, n3, x3, p3) := hk3 k (by omega)
      have hd4 : spec_l20Value.f k s p3 0 = some (t4, n4, x4, p4) := hk4 k (by omega)
      rw [spec_l20Fit.l0, if_neg (by omega), hb k (by omega), Option.bind_some, if_pos rfl, hq k (by omega), Option.bind_some, if_neg e0, if_neg e1, hd2, Option.bind_some, hd3, Option.bind_some, hd4, Option.bind_some, Option.bind_some, if_pos (by simp only [List.length_cons, List.length_nil]; omega)]
theorem fit_loop {s : List Int} (hs : Bytes s) (c : List S73) (hc : c.length ≤ 10) (m : Int) (hm : m ≤ 1000) : ∀ (d i : Nat) (x7 : List S28) (p : Int), i + d = c.length → 0 ≤ p → p + 2 * d ≤ 40000 → x7.length ≤ i → Short x7 →
    ∃ r p', (∀ k, d + 40 ≤ k → spec_l20Fit.l0 k c m x7 (i : Int) s p = some (r, p')) ∧ r.length ≤ 20 ∧ Short r := by
  intro d
  induction d with
  | zero =>
    intro i x7 p hi hp hp2 hx hsh
    have hi : i = c.length := by omega
    subst hi
    obtain ⟨r, p', h1, h2, h3⟩ := fit_end hs c m hm x7 p hp (by omega) (by omega) hsh
    exact ⟨r, p', fun k hk => h1 k (by omega), h2, h3⟩
  | succ d ih =>
    intro i x7 p hi hp hp2 hx hsh
    obtain ⟨t, n, x, p1, hk1, a1, b1, hx1⟩ := like_ok hs p hp (by omega) ((rd_T73 c i).f0) ((rd_T73 c i).f1)
    obtain ⟨r, p', h1, h2, h3⟩ := ih (i + 1) (x7 ++ [⟨t, n, x⟩]) p1 (by omega) (by omega) (by omega) (by rw [List.length_append]; simp; omega) (short_app hsh (short_one hx1))
    refine ⟨r, p', fun k hk => ?_, h2, h3⟩
    obtain ⟨k, rfl⟩ : ∃ m, k = m + 1 := ⟨k - 1, by omega⟩
    have hd : spec_l20Like.f k s p ((rd_T73 c i).f0) ((rd_T73 c i).f1) = some (t, n, x, p1) := hk1 k (by omega)
    rw [spec_l20Fit.l0, if_pos (by omega), if_pos (by omega), hd, Option.bind_some, if_pos (by omega), show wrap64 ((i : Int) + 1) = ((i + 1 : Nat) : Int) by rw [w64g (by omega)]; omega]
    exact h1 k (by omega)
theorem draw_fit {s : List Int} (hs : Bytes s) (c : List S73) (hc : c.length ≤ 10) (m : Int) (hm : m ≤ 1000) (p : Int) (hp : 0 ≤ p) (hp2 : p ≤ 30000) :
    ∃ r p', (∀ k, 60 ≤ k → spec_l20Fit.f k s p c m = some (r, p')) ∧ r.length ≤ 20 ∧ Short r := by
  obtain ⟨r, p', h1, h2, h3⟩ := fit_loop hs c hc m hm c.length 0 [] p (by omega) hp (by omega) (by simp) (fun x hx => absurd hx List.not_mem_nil)
  exact ⟨r, p', fun k hk => h1 k (by omega), h2, h3⟩

end Go.Proofs.Ytokphjnpkaipcaa.Pure
set_option linter.unusedVariables false
set_option linter.unusedSimpArgs false
namespace Go.Proofs.Ytokphjnpkaipcaa.Pure
open Go.RowKit Go.Proofs.Ytokphjnpkaipcaa.X Go.Proofs.YtokphjnpkaipcaaV.PrintWords Go.Proofs.YtokphjnpkaipcaaV.PrintLast Go.Proofs.YtokphjnpkaipcaaV.PrintMore

theorem alive_eq : laws_alive.f = some true := by decide +kernel

end Go.Proofs.Ytokphjnpkaipcaa.Pure
set_option linter.unusedVariables false
set_option linter.unusedSimpArgs false
namespace Go.Proofs.Ytokphjnpkaipcaa.Pure
open Go.RowKit Go.Proofs.Ytokphjnpkaipcaa.X Go.Proofs.YtokphjnpkaipcaaV.PrintWords Go.Proofs.YtokphjnpkaipcaaV.PrintLast Go.Proofs.YtokphjnpkaipcaaV.PrintMore

def VB (t n : Int) (s : ByteArray) : List Int :=
  if VOk t n s = true then (if t = 1 then [1, (n + 10000) / 256, (n + 10000) % 256] else if t = 2 then 2 :: (s.size : Int) :: bytesOf s else if t = 3 then [3, n] else [0]) else []
theorem bytes_len (s : ByteArray) : (bytesOf s).length = s.size := bytesOf_length s
theorem vb_len (t n : Int) (s : ByteArray) : (VB t n s).length ≤ 8 := by
  unfold VB
  split
  · rename_i h
    have := vok_size h
    split
    · simp
    · split
      · simp only [List.length_cons, bytes_len]; omega
      · split <;> simp
  · simp
theorem impl_vb {t n : Int} {s : ByteArray} (h : VOk t n s = true) : impl_Value_bytes.f t n s = some (VB t n s) := by
  unfold impl_Value_bytes.f VB
  rw [if_pos h]
  rcases vok_cases h with ⟨rfl, rfl, h3⟩ | ⟨rfl, h3, h4, h5⟩ | ⟨rfl, rfl, h3, h4⟩ | ⟨rfl, h3, h4, h5⟩
  · rfl
  · simp only [Option.bind_some, if_true]
    rw [w64g (n := n + 10000) (by omega), if_pos (by simp)]
    have e1 : (n + 10000) / 256 % 256 = (n + 10000) / 256 := by omega
    rw [e1]
    rfl
  · have e1 : (s.size : Int) % 256 = s.size := by omega
    simp only [Option.bind_some, show ((2 : Int) = 1) = False from eq_false (by decide), if_false, if_true, e1]
    rw [if_pos (by simp), if_pos (by simp; omega)]
    rfl
  · have e1 : n % 256 = n := by omega
    simp only [Option.bind_some, show ((3 : Int) = 1) = False from eq_false (by decide), show ((3 : Int) = 2) = False from eq_false (by decide), if_false, if_true, e1]
    rw [if_pos (by simp)]
    rfl
theorem vb_byte {t n : Int} {s : ByteArray} : ∀ x ∈ VB t n s, 0 ≤ x ∧ x ≤ 255 := by
  intro x hx
  unfold VB at hx
  split at hx
  · rename_i h
    rcases vok_cases h with ⟨rfl, rfl, h3⟩ | ⟨rfl, h3, h4, h5⟩ | ⟨rfl, rfl, h3, h4⟩ | ⟨rfl, h3, h4, h5⟩
    · have : x = 0 := by simpa using hx
      omega
    · have : x = 1 ∨ x = (n + 10000) / 256 ∨ x = (n + 10000) % 256 := by simpa using hx
      omega
    · have : x = 2 ∨ x = (s.size : Int) ∨ x ∈ bytesOf s := by simpa using hx
      rcases this with h | h | h
      · omega
      · omega
      · unfold bytesOf at h
        obtain ⟨b, _, rfl⟩ := List.mem_map.1 h
        have := b.toNat_lt
        omega
    · have : x = 3 ∨ x = n := by simpa using hx
      omega
  · cases hx

end Go.Proofs.Ytokphjnpkaipcaa.Pure
set_option linter.unusedVariables false
set_option linter.unusedSimpArgs false
namespace Go.Proofs.Ytokphjnpkaipcaa.Pure
open Go.RowKit Go.Proofs.Ytokphjnpkaipcaa.X Go.Proofs.YtokphjnpkaipcaaV.PrintWords Go.Proofs.YtokphjnpkaipcaaV.PrintLast Go.Proofs.YtokphjnpkaipcaaV.PrintMore

theorem rb_loop (r : List S28) (hr : ∀ x ∈ r, OkV x) (h4 : r.length ≤ 4) : ∀ (d j : Nat) (x : List Int), j + d = r.length → 1 ≤ x.length → x.length ≤ 1 + 8 * j → ∃ c : List Int, 1 ≤ c.length ∧ ∀ k, d + 1 ≤ k → impl_RowBytes.l0 k x r (r.length : Int) (j : Int) = some c
  | 0, j, x, hj, h1, h2 => by
    refine ⟨x, h1, fun k hk => ?_⟩
    obtain ⟨k, rfl⟩ : ∃ m, k = m + 1 := ⟨k - 1, by omega⟩
    rw [impl_RowBytes.l0, if_neg (by omega)]
  | d + 1, j, x, hj, h1, h2 => by
    have hx : VOk (r.getD j z28).f0 (r.getD j z28).f1 (r.getD j z28).f2 = true := hr _ (mem_getD r _ j (by omega))
    have hl := vb_len (r.getD j z28).f0 (r.getD j z28).f1 (r.getD j z28).f2
    obtain ⟨c, hc, hk⟩ := rb_loop r hr h4 d (j + 1) (x ++ VB (r.getD j z28).f0 (r.getD j z28).f1 (r.getD j z28).f2) (by omega) (by rw [List.length_append]; omega) (by rw [List.length_append]; omega)
    refine ⟨c, hc, fun k hk2 => ?_⟩
    obtain ⟨k, rfl⟩ : ∃ m, k = m + 1 := ⟨k - 1, by omega⟩
    rw [impl_RowBytes.l0, if_pos (by omega), if_pos (by omega), if_pos (by omega), rdV_nat, impl_vb hx]
    simp only [Option.bind_some]
    rw [if_pos (by omega), show wrap64 ((j : Int) + 1) = ((j + 1 : Nat) : Int) by rw [w64g (by omega)]; omega]
    exact hk k (by omega)
theorem FnRowOk : laws_FnRowOk.Pure := by
  intro l hl
  obtain ⟨s, hs, hby⟩ := open_ok hl.2
  obtain ⟨c, p', hc, hz, hp0, hp1⟩ := draw_cols hby 0 0 (by decide) (by decide) (by decide)
  obtain ⟨r, p2, hr, hrz, hsh⟩ := draw_fit hby c hz 2 (by decide) p' hp0 (by omega)
  refine ⟨2000000, ?_⟩
  unfold laws_FnRowOk.f
  by_cases h : (l.length : Int) > 1048576
  · rw [if_pos h]
  rw [if_neg h]
  have hdr : spec_DrawRowOk.f 2000000 l = some r := by
    rw [spec_DrawRowOk.f, hs, Option.bind_some]
    show (((spec_l20Any.f 2000000 s 0 2).bind _) : Option (List S28)) = _
    rw [spec_l20Any.f, hc _ (by omega), Option.bind_some]
    show ((((spec_l20Fit.f 2000000 s p' c 2).bind _).bind _) : Option (List S28)) = _
    rw [hr _ (by omega), Option.bind_some, Option.bind_some]
  rw [hdr, Option.bind_some]
  obtain ⟨b, hb, hb'⟩ := spec_row r (by omega) (fun x hx => by have := hsh x hx; omega)
  obtain ⟨i, hi, hi'⟩ := impl_row r
  have e : i = b := by
    rw [Bool.eq_iff_iff, hb', hi']
  subst e
  rw [hi, Option.bind_some, hb _ (by omega), Option.bind_some, if_neg (by simp)]
  have hrb : ∃ x : List Int, impl_RowBytes.f 2000000 r = some x ∧ (i == decide ((x.length : Int) > 0)) = true := by
    unfold impl_RowBytes.f
    rw [hi, Option.bind_some]
    cases i with
    | false =>
      rw [if_neg (by decide)]
      exact ⟨_, rfl, by decide⟩
    | true =>
      rw [if_pos rfl]
      obtain ⟨h1, h2⟩ := hi'.1 rfl
      obtain ⟨x, hx, hk⟩ := rb_loop r h1 h2 r.length 0 [((r.length : Int)) % 256] (by omega) (by simp) (by simp)
      refine ⟨x, hk _ (by omega), ?_⟩
      rw [decide_eq_true (by omega)]
      rfl
  obtain ⟨x, hx, hxe⟩ := hrb
  rw [hx, Option.bind_some, if_pos hxe, alive_eq]
  rfl

end Go.Proofs.Ytokphjnpkaipcaa.Pure
