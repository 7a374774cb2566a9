/- The program's RowsLess returns what the reference's returns, for all arguments; no condition. -/
import Derived.Test.YtikjhhjmdknhiaaVMore
import Derived.Test.YtikjhhjmdknhiaaX0
import Derived.Test.YtikjhhjmdknhiaaZFnExactRowsLess5
set_option linter.unusedVariables false
set_option linter.unusedSimpArgs false
namespace Go.Proofs.Ytikjhhjmdknhiaa.Pure
open Go.RowKit Go.Proofs.YtikjhhjmdknhiaaV.PrintWords Go.Proofs.YtikjhhjmdknhiaaV.PrintLast Go.Proofs.YtikjhhjmdknhiaaV.PrintMore

theorem w64g {n : Int} (h : -9223372036854775808 ≤ n ∧ n ≤ 9223372036854775807) : wrap64 n = n := by unfold wrap64; omega
theorem scan_all (F : Nat → Int → Option Bool) (n K : Nat) (G : Nat → Prop) (fin : Bool)
    (h1 : ∀ k j, K ≤ k → j < n → G j → F (k + 1) (j : Int) = F k ((j + 1 : Nat) : Int))
    (h2 : ∀ k j, K ≤ k → j < n → ¬ G j → F (k + 1) (j : Int) = some false)
    (h3 : ∀ k, K ≤ k → F (k + 1) (n : Int) = some fin) :
    ∃ b, (∀ k, n + 1 + K ≤ k → F k 0 = some b) ∧ (b = true ↔ ((∀ j, j < n → G j) ∧ fin = true)) := by
  have main : ∀ d i, i + d = n → ∃ b, (∀ k, d + 1 + K ≤ k → F k (i : Int) = some b) ∧ (b = true ↔ ((∀ j, i ≤ j → j < n → G j) ∧ fin = true)) := by
    intro d
    induction d with
    | zero =>
      intro i hi
      have hi : i = n := by omega
      subst hi
      refine ⟨fin, fun k hk => ?_, ⟨fun h => ⟨fun j h1 h2 => by omega, h⟩, fun h => h.2⟩⟩
      obtain ⟨k, rfl⟩ : ∃ m, k = m + 1 := ⟨k - 1, by omega⟩
      exact h3 k (by omega)
    | succ d ih =>
      intro i hi
      by_cases g : G i
      · obtain ⟨b, hb, hb'⟩ := ih (i + 1) (by omega)
        refine ⟨b, fun k hk => ?_, ?_⟩
        · obtain ⟨k, rfl⟩ : ∃ m, k = m + 1 := ⟨k - 1, by omega⟩
          rw [h1 k i (by omega) (by omega) g]
          exact hb k (by omega)
        · rw [hb']
          constructor
          · intro h
            refine ⟨fun j hj hj' => ?_, h.2⟩
            by_cases e : j = i
            · rw [e]; exact g
            · exact h.1 j (by omega) hj'
          · intro h
            exact ⟨fun j hj hj' => h.1 j (by omega) hj', h.2⟩
      · refine ⟨false, fun k hk => ?_, ?_⟩
        · obtain ⟨k, rfl⟩ : ∃ m, k = m + 1 := ⟨k - 1, by omega⟩
          exact h2 k i (by omega) (by omega) g
        · constructor
          · intro h
            cases h
          · intro h
            exact absurd (h.1 i (Nat.le_refl _) (by omega)) g
  obtain ⟨b, hb, hb'⟩ := main n 0 (by omega)
  refine ⟨b, hb, ?_⟩
  rw [hb']
  constructor
  · intro h; exact ⟨fun j hj => h.1 j (by omega) hj, h.2⟩
  · intro h; exact ⟨fun j _ hj => h.1 j hj, h.2⟩
theorem go_all {α : Type} (F : Nat → Int → Option α) (n K c : Nat) (r : α)
    (h1 : ∀ k j, K ≤ k → j < n → F (k + c) (j : Int) = F k ((j + 1 : Nat) : Int))
    (h3 : ∀ k, K ≤ k → F (k + c) (n : Int) = some r) : ∀ k, K + c * (n + 1) ≤ k → F k 0 = some r := by
  have main : ∀ d i, i + d = n → ∀ k, K + c * (d + 1) ≤ k → F k (i : Int) = some r := by
    intro d
    induction d with
    | zero =>
      intro i hi k hk
      have hi : i = n := by omega
      subst hi
      obtain ⟨k, rfl⟩ : ∃ m, k = m + c := ⟨k - c, by omega⟩
      exact h3 k (by omega)
    | succ d ih =>
      intro i hi k hk
      have e : c * (d + 1 + 1) = c * (d + 1) + c := Nat.mul_succ _ _
      obtain ⟨k, rfl⟩ : ∃ m, k = m + c := ⟨k - c, by omega⟩
      rw [h1 k i (by omega) (by omega)]
      exact ih (i + 1) (by omega) k (by omega)
  exact main n 0 (by omega)
theorem copy_all {β : Type} (F : Nat → List β → Int → Option (List β)) (L : List β) (x0 : List β) (hx : x0.length = L.length) (d : β)
    (h1 : ∀ k (x : List β) j, j < L.length → x.length = L.length → F (k + 1) x (j : Int) = F k (x.set j (L.getD j d)) ((j + 1 : Nat) : Int))
    (h3 : ∀ k x, x.length = L.length → F (k + 1) x (L.length : Int) = some x) : ∀ k, L.length + 1 ≤ k → F k x0 0 = some L := by
  have main : ∀ e i, i + e = L.length → ∀ k, e + 1 ≤ k → F k (L.take i ++ x0.drop i) (i : Int) = some L := by
    intro e
    induction e with
    | zero =>
      intro i hi k hk
      have hi : i = L.length := by omega
      subst hi
      obtain ⟨k, rfl⟩ : ∃ m, k = m + 1 := ⟨k - 1, by omega⟩
      rw [h3 k _ (by simp [hx]), List.take_length, List.drop_of_length_le (by omega), List.append_nil]
    | succ e ih =>
      intro i hi k hk
      obtain ⟨k, rfl⟩ : ∃ m, k = m + 1 := ⟨k - 1, by omega⟩
      have hlen : (L.take i ++ x0.drop i).length = L.length := by
        rw [List.length_append, List.length_take, List.length_drop]
        omega
      rw [h1 k _ i (by omega) hlen]
      have hi' : i < L.length := by omega
      have hi2 : i < x0.length := by omega
      have e2 : (L.take i ++ x0.drop i).set i (L.getD i d) = L.take (i + 1) ++ x0.drop (i + 1) := by
        rw [List.set_append_right _ _ (by rw [List.length_take]; omega), List.length_take, show i - min i L.length = 0 by omega, List.drop_eq_getElem_cons hi2, List.set_cons_zero]
        rw [List.take_succ_eq_append_getElem hi', List.append_assoc]
        congr 1
        rw [List.getD_eq_getElem?_getD, List.getElem?_eq_getElem hi']
        rfl
      rw [e2]
      exact ih (i + 1) (by omega) k (by omega)
  intro k hk
  have := main L.length 0 (by omega) k hk
  simpa using this
theorem chain_iff {α : Type} (d : α) (Q : α → Prop) (R : α → α → Prop) (tr : ∀ a b c, R a b → R b c → R a c) (l : List α) :
    (∀ j, j < l.length → Q (l.getD j d) ∧ (0 < j → R (l.getD (j - 1) d) (l.getD j d))) ↔ ((∀ x ∈ l, Q x) ∧ l.Pairwise R) := by
  have gd : ∀ j (h : j < l.length), l.getD j d = l[j] := by
    intro j h
    rw [List.getD_eq_getElem?_getD, List.getElem?_eq_getElem h]
    rfl
  constructor
  · intro h
    refine ⟨fun x hx => ?_, ?_⟩
    · obtain ⟨j, hj, rfl⟩ := List.getElem_of_mem hx
      rw [← gd j hj]
      exact (h j hj).1
    · rw [List.pairwise_iff_getElem]
      have main : ∀ e i (hi : i < l.length) (hj : i + e + 1 < l.length), R l[i] l[i + e + 1] := by
        intro e
        induction e with
        | zero =>
          intro i hi hj
          have := (h (i + 0 + 1) hj).2 (by omega)
          rw [gd _ (show i + 0 + 1 - 1 < l.length by omega), gd _ hj] at this
          exact this
        | succ e ih =>
          intro i hi hj
          have h1 := ih i hi (by omega)
          have := (h (i + (e + 1) + 1) hj).2 (by omega)
          rw [gd _ (show i + (e + 1) + 1 - 1 < l.length by omega), gd _ hj] at this
          exact tr _ _ _ h1 this
      intro i j hi hj hij
      obtain ⟨e, rfl⟩ : ∃ e, j = i + e + 1 := ⟨j - i - 1, by omega⟩
      exact main e i hi hj
  · intro h j hj
    refine ⟨?_, fun h0 => ?_⟩
    · rw [gd j hj]
      exact h.1 _ (List.getElem_mem hj)
    · rw [gd j hj, gd (j - 1) (by omega)]
      exact List.pairwise_iff_getElem.1 h.2 (j - 1) j (by omega) hj (by omega)
/-- What holds of a chain holds of the chain without one of its elements. -/
theorem chain_less {α : Type} {Q : α → Prop} {R : α → α → Prop} {l : List α} (h : (∀ x ∈ l, Q x) ∧ l.Pairwise R) (a b : Nat) (hab : a ≤ b) :
    (∀ x ∈ l.take a ++ l.drop b, Q x) ∧ (l.take a ++ l.drop b).Pairwise R := by
  have sub : (l.take a ++ l.drop b).Sublist l := by
    have h1 : (l.take a ++ l.drop b).Sublist (l.take a ++ l.drop a) := by
      apply List.Sublist.append (List.Sublist.refl _)
      rw [show b = a + (b - a) by omega, ← List.drop_drop]
      exact List.drop_sublist _ _
    rwa [List.take_append_drop] at h1
  exact ⟨fun x hx => h.1 x (sub.subset hx), h.2.sublist sub⟩
theorem go_all2 {α : Type} (F : Nat → Int → Option α) (n K : Nat) (r : α)
    (h1 : ∀ k j, K ≤ k → j < n → F (k + 1 + 1) (j : Int) = F k ((j + 1 : Nat) : Int))
    (h3 : ∀ k, K ≤ k → F (k + 1 + 1) (n : Int) = some r) : ∀ k, K + 2 * (n + 1) ≤ k → F k 0 = some r :=
  go_all F n K 2 r h1 h3
theorem any_ok {α : Type} (F : Nat → Int → Option α) (n K : Nat)
    (h1 : ∀ j, j < n → (∃ r, ∀ k, K ≤ k → F (k + 1) (j : Int) = some r) ∨ (∀ k, K ≤ k → F (k + 1) (j : Int) = F k ((j + 1 : Nat) : Int)))
    (h3 : ∃ r, ∀ k, K ≤ k → F (k + 1) (n : Int) = some r) : ∃ r, ∀ k, n + 1 + K ≤ k → F k 0 = some r := by
  have main : ∀ d i, i + d = n → ∃ r, ∀ k, d + 1 + K ≤ k → F k (i : Int) = some r := by
    intro d
    induction d with
    | zero =>
      intro i hi
      have hi : i = n := by omega
      subst hi
      obtain ⟨r, hr⟩ := h3
      refine ⟨r, fun k hk => ?_⟩
      obtain ⟨k, rfl⟩ : ∃ m, k = m + 1 := ⟨k - 1, by omega⟩
      exact hr k (by omega)
    | succ d ih =>
      intro i hi
      rcases h1 i (by omega) with ⟨r, hr⟩ | h
      · refine ⟨r, fun k hk => ?_⟩
        obtain ⟨k, rfl⟩ : ∃ m, k = m + 1 := ⟨k - 1, by omega⟩
        exact hr k (by omega)
      · obtain ⟨r, hr⟩ := ih (i + 1) (by omega)
        refine ⟨r, fun k hk => ?_⟩
        obtain ⟨k, rfl⟩ : ∃ m, k = m + 1 := ⟨k - 1, by omega⟩
        rw [h k (by omega)]
        exact hr k (by omega)
  exact main n 0 (by omega)

end Go.Proofs.Ytikjhhjmdknhiaa.Pure
set_option linter.unusedVariables false
set_option linter.unusedSimpArgs false
namespace Go.Proofs.Ytikjhhjmdknhiaa.Pure
open Go.RowKit Go.Proofs.Ytikjhhjmdknhiaa.X Go.Proofs.YtikjhhjmdknhiaaV.PrintWords Go.Proofs.YtikjhhjmdknhiaaV.PrintLast Go.Proofs.YtikjhhjmdknhiaaV.PrintMore

theorem mem_getD {α : Type} (l : List α) (d : α) (j : Nat) (hj : j < l.length) : l.getD j d ∈ l := by
  rw [List.getD_eq_getElem?_getD, List.getElem?_eq_getElem hj]
  exact List.getElem_mem hj
theorem all_mem {α : Type} (l : List α) (d : α) (P : α → Prop) : (∀ j, j < l.length → P (l.getD j d)) ↔ ∀ x ∈ l, P x := by
  constructor
  · intro h x hx
    obtain ⟨j, hj, rfl⟩ := List.getElem_of_mem hx
    have := h j hj
    rw [List.getD_eq_getElem?_getD, List.getElem?_eq_getElem hj] at this
    exact this
  · intro h j hj
    exact h _ (mem_getD l d j hj)
theorem eqValueS_eq (l : List S77) (hl : l.length ≤ 1000000000) : ∀ k, l.length + 1 ≤ k → laws_eqValueS.f k l l = some true := by
  intro k hk
  unfold laws_eqValueS.f
  rw [if_pos rfl]
  refine go_all (fun k i => laws_eqValueS.l0 k l l i) l.length 0 1 true ?_ ?_ k (by omega)
  · intro k j _ hj
    show laws_eqValueS.l0 (k + 1) l l j = _
    rw [laws_eqValueS.l0, if_pos (by omega), if_pos (by omega), if_pos (by omega), laws_eqValue.f, if_pos rfl, if_pos rfl, if_pos rfl, Option.bind_some, if_pos rfl, show wrap64 ((j : Int) + 1) = ((j + 1 : Nat) : Int) by rw [w64g (by omega)]; omega]
  · intro k _
    show laws_eqValueS.l0 (k + 1) l l l.length = _
    rw [laws_eqValueS.l0, if_neg (by omega)]
def mkV (x : S74) : S77 := ⟨x.f0, x.f1, x.f2⟩
theorem toValueS_eq (l : List S74) (hl : l.length ≤ 1000000000) : ∀ k, l.length + 1 ≤ k → laws_toValueS.f k l = some (l.map mkV) := by
  intro k hk
  unfold laws_toValueS.f
  rw [if_pos (by omega), if_pos (by omega)]
  refine copy_all (fun k x i => laws_toValueS.l0 k l x i) (l.map mkV) (List.replicate ((l.length : Int) : Int).toNat z77) (by rw [List.length_replicate, List.length_map]; omega) (mkV z74) ?_ ?_ k (by simp only [List.length_map]; omega)
  · intro k x j hj hx
    rw [List.length_map] at hj hx
    show laws_toValueS.l0 (k + 1) l x j = _
    rw [laws_toValueS.l0, if_pos (by omega), if_pos (by omega), laws_toValue.f, Option.bind_some, if_pos (by omega), show wrap64 ((j : Int) + 1) = ((j + 1 : Nat) : Int) by rw [w64g (by omega)]; omega, Int.toNat_natCast]
    have : (l.map mkV).getD j (mkV z74) = (⟨(rd_T74 l j).f0, (rd_T74 l j).f1, (rd_T74 l j).f2⟩ : S77) := by
      show _ = mkV (l.getD j z74)
      simp only [List.getD_eq_getElem?_getD, List.getElem?_map]
      cases l[j]? <;> rfl
    rw [this]
  · intro k x hx
    rw [List.length_map] at hx
    show laws_toValueS.l0 (k + 1) l x (l.map _).length = _
    rw [laws_toValueS.l0, List.length_map, if_neg (by omega)]
theorem szS_loop (l : List S74) (hl : l.length ≤ 1000000000) (hm : ∀ x ∈ l, x.f2.size ≤ maxLen) : ∀ (d i : Nat) (left : Int), i + d = l.length → 0 ≤ left → left ≤ 1048576 →
    ∃ z, (∀ k, d + 1 ≤ k → laws_szValueS.l0 k l left (i : Int) = some z) ∧ z ≤ 1048576 ∧ (0 ≤ z → ∀ j, i ≤ j → j < l.length → (l.getD j z74).f2.size ≤ 1048576) := by
  intro d
  induction d with
  | zero =>
    intro i left hi h0 h1
    refine ⟨left, fun k hk => ?_, h1, fun _ j h h' => by omega⟩
    obtain ⟨k, rfl⟩ : ∃ m, k = m + 1 := ⟨k - 1, by omega⟩
    rw [laws_szValueS.l0, if_neg (by omega)]
  | succ d ih =>
    intro i left hi h0 h1
    have hs : (l.getD i z74).f2.size ≤ 9223372036854775807 := Nat.le_trans (hm _ (mem_getD l z74 i (by omega))) (by decide)
    have ew : wrap64 (left - ((l.getD i z74).f2.size : Int)) = left - ((l.getD i z74).f2.size : Int) := w64g (by omega)
    have hu : ∀ k, laws_szValueS.l0 (k + 1) l left (i : Int) = if left - ((l.getD i z74).f2.size : Int) < 0 then some (-1) else laws_szValueS.l0 k l (left - ((l.getD i z74).f2.size : Int)) ((i + 1 : Nat) : Int) := by
      intro k
      rw [laws_szValueS.l0, if_pos (by omega), if_pos (by omega), laws_szValue.f]
      show ((if wrap64 (left - ((l.getD i z74).f2.size : Int)) < 0 then some (-1) else some (wrap64 (left - ((l.getD i z74).f2.size : Int)))).bind _) = _
      rw [ew, show wrap64 ((i : Int) + 1) = ((i + 1 : Nat) : Int) by rw [w64g (by omega)]; omega]
      by_cases h : left - ((l.getD i z74).f2.size : Int) < 0
      · rw [if_pos h, if_pos h, Option.bind_some, if_pos (by decide)]
      · rw [if_neg h, if_neg h, Option.bind_some, if_neg h]
    by_cases h : left - ((l.getD i z74).f2.size : Int) < 0
    · refine ⟨-1, fun k hk => ?_, by omega, fun h => by omega⟩
      obtain ⟨k, rfl⟩ : ∃ m, k = m + 1 := ⟨k - 1, by omega⟩
      rw [hu, if_pos h]
    · obtain ⟨z, hz, hz1, hz2⟩ := ih (i + 1) (left - ((l.getD i z74).f2.size : Int)) (by omega) (by omega) (by omega)
      refine ⟨z, fun k hk => ?_, hz1, fun h' j hj hj' => ?_⟩
      · obtain ⟨k, rfl⟩ : ∃ m, k = m + 1 := ⟨k - 1, by omega⟩
        rw [hu, if_neg h]
        exact hz k (by omega)
      · by_cases e : j = i
        · rw [e]
          omega
        · exact hz2 h' j (by omega) hj'
theorem szS_ok (l : List S74) (hl : l.length ≤ maxLen) (hm : ∀ x ∈ l, x.f2.size ≤ maxLen) (left : Int) (h0 : 0 ≤ left) (h1 : left ≤ 1048576) :
    ∃ z, (∀ k, 1048578 ≤ k → laws_szValueS.f k l left = some z) ∧ z ≤ 1048576 ∧ (0 ≤ z → l.length ≤ 1048576 ∧ ∀ x ∈ l, x.f2.size ≤ 1048576) := by
  have h2 : l.length ≤ 9223372036854775807 := Nat.le_trans hl (by decide)
  have ew : wrap64 (left - (l.length : Int)) = left - l.length := w64g (by omega)
  by_cases h : left - (l.length : Int) < 0
  · refine ⟨-1, fun k _ => ?_, by omega, fun h => by omega⟩
    unfold laws_szValueS.f
    rw [ew, if_pos h]
  · obtain ⟨z, hz, hz1, hz2⟩ := szS_loop l (by omega) hm l.length 0 (left - l.length) (by omega) (by omega) (by omega)
    refine ⟨z, fun k hk => ?_, hz1, fun h' => ⟨by omega, (all_mem l z74 (fun x => x.f2.size ≤ 1048576)).1 fun j hj => hz2 h' j (by omega) hj⟩⟩
    unfold laws_szValueS.f
    rw [ew, if_neg h]
    exact hz k (by omega)
theorem mkV_small {l : List S74} (h : ∀ x ∈ l, x.f2.size ≤ 1048576) : ∀ x ∈ l.map mkV, x.f2.size ≤ 1048576 := by
  intro x hx
  obtain ⟨y, hy, rfl⟩ := List.mem_map.1 hx
  exact h y hy
/-! Lists of rows. -/
abbrev mkR (r : List S74) : List S77 := r.map mkV
theorem getD_map {α β : Type} (f : α → β) (l : List α) (d : α) (d' : β) (j : Nat) (hj : j < l.length) : (l.map f).getD j d' = f (l.getD j d) := by
  simp only [List.getD_eq_getElem?_getD, List.getElem?_map, List.getElem?_eq_getElem hj]
  rfl
theorem toValueSS_eq (l : List (List S74)) (hl : l.length ≤ 1048576) (hi : ∀ r ∈ l, r.length ≤ 1048576) : ∀ k, l.length + 1048580 ≤ k → laws_toValueSS.f k l = some (l.map mkR) := by
  intro k hk
  unfold laws_toValueSS.f
  rw [if_pos (by omega), if_pos (by omega)]
  obtain ⟨k, rfl⟩ : ∃ m, k = m + 1048577 := ⟨k - 1048577, by omega⟩
  refine copy_all (fun k x i => laws_toValueSS.l0 (k + 1048577) l x i) (l.map mkR) (List.replicate ((l.length : Int) : Int).toNat ([] : List S77)) (by rw [List.length_replicate, List.length_map]; omega) [] ?_ ?_ k (by rw [List.length_map]; omega)
  · intro k x j hj hx
    rw [List.length_map] at hj hx
    have hr := hi _ (mem_getD l [] j hj)
    show laws_toValueSS.l0 (k + 1 + 1048577) l x j = _
    rw [show k + 1 + 1048577 = (k + 1048577) + 1 by omega, laws_toValueSS.l0, if_pos (by omega), if_pos (by omega)]
    show ((laws_toValueS.f (k + 1048577) (l.getD j [])).bind _) = _
    rw [toValueS_eq _ (by omega) _ (by omega), Option.bind_some, if_pos (by omega), show wrap64 ((j : Int) + 1) = ((j + 1 : Nat) : Int) by rw [w64g (by omega)]; omega, Int.toNat_natCast, getD_map mkR l [] [] j hj]
  · intro k x hx
    rw [List.length_map] at hx
    show laws_toValueSS.l0 (k + 1 + 1048577) l x (l.map _).length = _
    rw [show k + 1 + 1048577 = (k + 1048577) + 1 by omega, laws_toValueSS.l0, List.length_map, if_neg (by omega)]
abbrev SmallR (r : List S74) : Prop := r.length ≤ 1048576 ∧ ∀ x ∈ r, x.f2.size ≤ 1048576
theorem szSS_loop (l : List (List S74)) (hl : l.length ≤ 1048576) (hm : ∀ r ∈ l, r.length ≤ maxLen ∧ ∀ x ∈ r, x.f2.size ≤ maxLen) : ∀ (d i : Nat) (left : Int), i + d = l.length → 0 ≤ left → left ≤ 1048576 →
    ∃ z, (∀ k, d + 1 + 1048578 ≤ k → laws_szValueSS.l0 k l left (i : Int) = some z) ∧ z ≤ 1048576 ∧ (0 ≤ z → ∀ j, i ≤ j → j < l.length → SmallR (l.getD j [])) := by
  intro d
  induction d with
  | zero =>
    intro i left hi h0 h1
    refine ⟨left, fun k hk => ?_, h1, fun _ j h h' => by omega⟩
    obtain ⟨k, rfl⟩ : ∃ m, k = m + 1 := ⟨k - 1, by omega⟩
    rw [laws_szValueSS.l0, if_neg (by omega)]
  | succ d ih =>
    intro i left hi h0 h1
    have hs := hm _ (mem_getD l [] i (by omega))
    obtain ⟨y, hy, hy1, hy2⟩ := szS_ok (l.getD i []) hs.1 hs.2 left h0 h1
    have hu : ∀ k, 1048578 ≤ k → laws_szValueSS.l0 (k + 1) l left (i : Int) = if y < 0 then some (-1) else laws_szValueSS.l0 k l y ((i + 1 : Nat) : Int) := by
      intro k hk
      rw [laws_szValueSS.l0, if_pos (by omega), if_pos (by omega)]
      show ((laws_szValueS.f k (l.getD i []) left).bind _) = _
      rw [hy k hk, Option.bind_some, show wrap64 ((i : Int) + 1) = ((i + 1 : Nat) : Int) by rw [w64g (by omega)]; omega]
    by_cases h : y < 0
    · refine ⟨-1, fun k hk => ?_, by omega, fun h => by omega⟩
      obtain ⟨k, rfl⟩ : ∃ m, k = m + 1 := ⟨k - 1, by omega⟩
      rw [hu k (by omega), if_pos h]
    · obtain ⟨z, hz, hz1, hz2⟩ := ih (i + 1) y (by omega) (by omega) hy1
      refine ⟨z, fun k hk => ?_, hz1, fun h' j hj hj' => ?_⟩
      · obtain ⟨k, rfl⟩ : ∃ m, k = m + 1 := ⟨k - 1, by omega⟩
        rw [hu k (by omega), if_neg h]
        exact hz k (by omega)
      · by_cases e : j = i
        · rw [e]
          exact hy2 (by omega)
        · exact hz2 h' j (by omega) hj'
theorem szSS_ok (l : List (List S74)) (hl : l.length ≤ maxLen) (hm : ∀ r ∈ l, r.length ≤ maxLen ∧ ∀ x ∈ r, x.f2.size ≤ maxLen) (left : Int) (h0 : 0 ≤ left) (h1 : left ≤ 1048576) :
    ∃ z, (∀ k, 3000000 ≤ k → laws_szValueSS.f k l left = some z) ∧ z ≤ 1048576 ∧ (0 ≤ z → l.length ≤ 1048576 ∧ ∀ r ∈ l, SmallR r) := by
  have h2 : l.length ≤ 9223372036854775807 := Nat.le_trans hl (by decide)
  have ew : wrap64 (left - (l.length : Int)) = left - l.length := w64g (by omega)
  by_cases h : left - (l.length : Int) < 0
  · refine ⟨-1, fun k _ => ?_, by omega, fun h => by omega⟩
    unfold laws_szValueSS.f
    rw [ew, if_pos h]
  · obtain ⟨z, hz, hz1, hz2⟩ := szSS_loop l (by omega) hm l.length 0 (left - l.length) (by omega) (by omega) (by omega)
    refine ⟨z, fun k hk => ?_, hz1, fun h' => ⟨by omega, (all_mem l [] SmallR).1 fun j hj => hz2 h' j (by omega) hj⟩⟩
    unfold laws_szValueSS.f
    rw [ew, if_neg h]
    exact hz k (by omega)
theorem eqValueSS_eq (l : List (List S77)) (hl : l.length ≤ 1048576) (hi : ∀ r ∈ l, r.length ≤ 1048576) : ∀ k, l.length + 1048580 ≤ k → laws_eqValueSS.f k l l = some true := by
  intro k hk
  unfold laws_eqValueSS.f
  rw [if_pos rfl]
  refine go_all (fun k i => laws_eqValueSS.l0 k l l i) l.length 1048577 1 true ?_ ?_ k (by omega)
  · intro k j hk hj
    have hr := hi _ (mem_getD l [] j hj)
    show laws_eqValueSS.l0 (k + 1) l l j = _
    rw [laws_eqValueSS.l0, if_pos (by omega), if_pos (by omega), if_pos (by omega)]
    show ((laws_eqValueS.f k (l.getD j []) (l.getD j [])).bind _) = _
    rw [eqValueS_eq _ (by omega) _ (by omega), Option.bind_some, if_pos rfl, show wrap64 ((j : Int) + 1) = ((j + 1 : Nat) : Int) by rw [w64g (by omega)]; omega]
  · intro k _
    show laws_eqValueSS.l0 (k + 1) l l l.length = _
    rw [laws_eqValueSS.l0, if_neg (by omega)]
theorem mkR_small {l : List (List S74)} (h : ∀ r ∈ l, SmallR r) : ∀ r ∈ l.map mkR, r.length ≤ 1048576 := by
  intro r hr
  obtain ⟨y, hy, rfl⟩ := List.mem_map.1 hr
  rw [List.length_map]
  exact (h y hy).1

end Go.Proofs.Ytikjhhjmdknhiaa.Pure
set_option linter.unusedVariables false
set_option linter.unusedSimpArgs false
namespace Go.Proofs.Ytikjhhjmdknhiaa.Pure
open Go.RowKit Go.Proofs.YtikjhhjmdknhiaaV.PrintWords Go.Proofs.YtikjhhjmdknhiaaV.PrintLast Go.Proofs.YtikjhhjmdknhiaaV.PrintMore

open Classical in
/-- How many elements of a list are x. -/
noncomputable def cnt {α : Type} (l : List α) (x : α) : Nat := l.countP (fun y => decide (y = x))
theorem cnt_nil {α : Type} (x : α) : cnt ([] : List α) x = 0 := by unfold cnt; exact List.countP_nil
theorem cnt_append {α : Type} (l m : List α) (x : α) : cnt (l ++ m) x = cnt l x + cnt m x := by unfold cnt; exact List.countP_append
open Classical in
theorem cnt_one {α : Type} (y x : α) : cnt [y] x = if y = x then 1 else 0 := by
  unfold cnt
  by_cases h : y = x
  · rw [if_pos h, List.countP_cons_of_pos (by simpa using h), List.countP_nil]
  · rw [if_neg h, List.countP_cons_of_neg (by simpa using h), List.countP_nil]
open Classical in
theorem cnt_cons {α : Type} (y : α) (l : List α) (x : α) : cnt (y :: l) x = (if y = x then 1 else 0) + cnt l x := by
  rw [show y :: l = [y] ++ l from rfl, cnt_append, cnt_one]
theorem cnt_le {α : Type} (l : List α) (x : α) : cnt l x ≤ l.length := by unfold cnt; exact List.countP_le_length
open Classical in
theorem cnt_pos {α : Type} {l : List α} {x : α} : 0 < cnt l x ↔ x ∈ l := by
  unfold cnt
  rw [List.countP_pos_iff]
  constructor
  · rintro ⟨y, hy, e⟩
    rw [← of_decide_eq_true e]; exact hy
  · intro h
    exact ⟨x, h, decide_eq_true rfl⟩
theorem cnt_zero {α : Type} {l : List α} {x : α} : cnt l x = 0 ↔ x ∉ l := by
  rw [← cnt_pos]
  omega
open Classical in
theorem cnt_take_succ {α : Type} (l : List α) (j : Nat) (hj : j < l.length) (x : α) : cnt (l.take (j + 1)) x = cnt (l.take j) x + if l[j] = x then 1 else 0 := by
  rw [List.take_succ_eq_append_getElem hj, cnt_append, cnt_one]
open Classical in
/-- Each element once. -/
noncomputable def onceStep {α : Type} (out : List α) (r : α) : List α := if cnt out r = 0 then out ++ [r] else out
noncomputable def once {α : Type} (l : List α) : List α := l.foldl onceStep []
theorem once_snoc {α : Type} (l : List α) (r : α) : once (l ++ [r]) = onceStep (once l) r := by unfold once; rw [List.foldl_append]; rfl
theorem onceStep_len {α : Type} (out : List α) (r : α) : (onceStep out r).length ≤ out.length + 1 := by
  unfold onceStep
  split
  · simp
  · omega
theorem once_all {α : Type} (l : List α) : (once l).Nodup ∧ (∀ x, x ∈ once l ↔ x ∈ l) ∧ (once l).length ≤ l.length := by
  have main : ∀ n, n ≤ l.length → (once (l.take n)).Nodup ∧ (∀ x, x ∈ once (l.take n) ↔ x ∈ l.take n) ∧ (once (l.take n)).length ≤ n := by
    intro n
    induction n with
    | zero =>
      intro _
      rw [List.take_zero]
      exact ⟨List.nodup_nil, fun x => Iff.rfl, Nat.le_refl _⟩
    | succ n ih =>
      intro hn
      obtain ⟨h1, h2, h3⟩ := ih (by omega)
      rw [List.take_succ_eq_append_getElem (show n < l.length by omega), once_snoc]
      unfold onceStep
      by_cases h : cnt (once (l.take n)) l[n] = 0
      · rw [if_pos h]
        refine ⟨?_, fun x => ?_, by simp; exact h3⟩
        · rw [List.nodup_append]
          refine ⟨h1, by simp, fun a ha b hb => ?_⟩
          rw [List.mem_singleton] at hb
          subst hb
          rintro rfl
          exact cnt_zero.1 h ha
        · rw [List.mem_append, List.mem_append, h2]
      · rw [if_neg h]
        refine ⟨h1, fun x => ?_, by omega⟩
        rw [List.mem_append, h2, List.mem_singleton]
        constructor
        · exact Or.inl
        · rintro (g | rfl)
          · exact g
          · rw [← h2]
            exact cnt_pos.1 (by omega)
  have := main l.length (Nat.le_refl _)
  rw [List.take_length] at this
  exact this
open Classical in
theorem sum_at {α : Type} (y : α) : ∀ (o : List α), o.Nodup → (o.map fun x => if y = x then 1 else 0).sum = if y ∈ o then 1 else 0
  | [], _ => by simp
  | a :: t, h => by
    rw [List.nodup_cons] at h
    rw [List.map_cons, List.sum_cons, sum_at y t h.2]
    by_cases e : y = a
    · subst e
      rw [if_pos rfl, if_neg h.1, if_pos List.mem_cons_self]
    · rw [if_neg e]
      by_cases g : y ∈ t
      · rw [if_pos g, if_pos (List.mem_cons_of_mem _ g)]
      · rw [if_neg g, if_neg (fun h' => (List.mem_cons.1 h').elim e g)]
open Classical in
/-- The counts of elements, each once, are the count of all of them. -/
theorem sum_cnt {α : Type} (o : List α) (ho : o.Nodup) : ∀ (l : List α), (o.map (cnt l)).sum = l.countP (fun y => decide (y ∈ o))
  | [] => by
    rw [List.countP_nil]
    have : o.map (cnt ([] : List α)) = o.map (fun _ => 0) := List.map_congr_left (fun a _ => cnt_nil a)
    rw [this]
    clear this ho
    induction o with
    | nil => rfl
    | cons a t ih => rw [List.map_cons, List.sum_cons, ih]
  | y :: t => by
    have e : o.map (cnt (y :: t)) = o.map (fun x => (if y = x then 1 else 0) + cnt t x) := List.map_congr_left (fun a _ => cnt_cons y t a)
    have s : ∀ (p : List α) (f g : α → Nat), (p.map fun x => f x + g x).sum = (p.map f).sum + (p.map g).sum := by
      intro p f g
      induction p with
      | nil => rfl
      | cons a t ih =>
        simp only [List.map_cons, List.sum_cons, ih]
        omega
    rw [e, s o (fun x => if y = x then 1 else 0) (cnt t), sum_at y o ho, sum_cnt o ho t]
    by_cases g : y ∈ o
    · rw [if_pos g, List.countP_cons_of_pos (by simpa using g)]
      omega
    · rw [if_neg g, List.countP_cons_of_neg (by simpa using g)]
      omega
open Classical in
theorem once_sum {α : Type} (l : List α) : ((once l).map (cnt l)).sum = l.length := by
  obtain ⟨h1, h2, _⟩ := once_all l
  rw [sum_cnt _ h1, List.countP_eq_length]
  intro a ha
  exact decide_eq_true ((h2 a).2 ha)
open Classical in
theorem bag_iff {α : Type} (a b : List α) : ((∀ r ∈ a, cnt a r = cnt b r) ∧ a.length = b.length) ↔ ∀ r ∈ a ++ b, cnt a r = cnt b r := by
  obtain ⟨h1, h2, _⟩ := once_all a
  have ea := sum_cnt _ h1 a
  have eb := sum_cnt _ h1 b
  rw [once_sum] at ea
  have em : (∀ r ∈ a, cnt a r = cnt b r) → ((once a).map (cnt a)).sum = ((once a).map (cnt b)).sum := fun h => by
    rw [List.map_congr_left (fun x hx => h x ((h2 x).1 hx))]
  constructor
  · rintro ⟨h, hl⟩ r hr
    rcases List.mem_append.1 hr with g | g
    · exact h r g
    · refine h r ((h2 r).1 ?_)
      have e := em h
      rw [once_sum, eb, hl] at e
      have := List.countP_eq_length.1 e.symm r g
      exact of_decide_eq_true this
  · intro h
    have ha : ∀ r ∈ a, cnt a r = cnt b r := fun r hr => h r (List.mem_append_left _ hr)
    refine ⟨ha, ?_⟩
    have e := em ha
    rw [once_sum, eb] at e
    rw [e, List.countP_eq_length]
    intro r hr
    refine decide_eq_true ((h2 r).2 ?_)
    rw [← cnt_pos, h r (List.mem_append_right _ hr), cnt_pos]
    exact hr
open Classical in
/-- A list without as many of each element as another one has of it, the first ones of them: what is gone, and what is left. -/
noncomputable def lessStep {α : Type} (b : List α) (s : List α × List α) (r : α) : List α × List α := if cnt s.1 r < cnt b r then (s.1 ++ [r], s.2) else (s.1, s.2 ++ [r])
noncomputable def lessGo {α : Type} (b l : List α) : List α × List α := l.foldl (lessStep b) ([], [])
theorem lessGo_snoc {α : Type} (b l : List α) (r : α) : lessGo b (l ++ [r]) = lessStep b (lessGo b l) r := by unfold lessGo; rw [List.foldl_append]; rfl
theorem lessGo_len {α : Type} (b l : List α) : (lessGo b l).1.length + (lessGo b l).2.length = l.length ∧ (∀ x ∈ (lessGo b l).2, x ∈ l) := by
  have main : ∀ n, n ≤ l.length → (lessGo b (l.take n)).1.length + (lessGo b (l.take n)).2.length = n ∧ ∀ x ∈ (lessGo b (l.take n)).2, x ∈ l := by
    intro n
    induction n with
    | zero =>
      intro _
      rw [List.take_zero]
      exact ⟨rfl, fun x hx => by cases hx⟩
    | succ n ih =>
      intro hn
      obtain ⟨h1, h2⟩ := ih (by omega)
      rw [List.take_succ_eq_append_getElem (show n < l.length by omega), lessGo_snoc]
      unfold lessStep
      split
      · refine ⟨?_, h2⟩
        simp only [List.length_append, List.length_singleton]
        omega
      · refine ⟨?_, fun x hx => ?_⟩
        · simp only [List.length_append, List.length_singleton]
          omega
        · rcases List.mem_append.1 hx with g | g
          · exact h2 x g
          · rw [List.mem_singleton] at g
            rw [g]
            exact List.getElem_mem _
  have := main l.length (Nat.le_refl _)
  rw [List.take_length] at this
  exact this

end Go.Proofs.Ytikjhhjmdknhiaa.Pure
set_option linter.unusedVariables false
set_option linter.unusedSimpArgs false
namespace Go.Proofs.Ytikjhhjmdknhiaa.Pure
open Go.RowKit Go.Proofs.Ytikjhhjmdknhiaa.X Go.Proofs.YtikjhhjmdknhiaaV.PrintWords Go.Proofs.YtikjhhjmdknhiaaV.PrintLast Go.Proofs.YtikjhhjmdknhiaaV.PrintMore

theorem rdV (l : List S77) (j : Nat) : rd_T77 l (j : Int) = l.getD j z77 := rfl
theorem S_ext {x y : S77} (h0 : x.f0 = y.f0) (h1 : x.f1 = y.f1) (h2 : x.f2.toList = y.f2.toList) : x = y := by
  obtain ⟨a, b, c⟩ := x
  obtain ⟨a', b', c'⟩ := y
  simp only at h0 h1 h2
  subst h0 h1
  rw [ByteArray.toList_eq, ByteArray.toList_eq] at h2
  have h3 : c.data = c'.data := Array.toList_inj.1 h2
  have h4 : c = c' := by
    obtain ⟨d⟩ := c
    obtain ⟨d'⟩ := c'
    simp only at h3
    rw [h3]
  rw [h4]
theorem ne_iff (x y : S77) : ((!(x.f0 == y.f0) || (!(x.f1 == y.f1) || (!(x.f2.toList == y.f2.toList)))) = true) ↔ x ≠ y := by
  constructor
  · rintro h rfl
    simp at h
  · intro h
    by_cases h0 : x.f0 = y.f0
    · by_cases h1 : x.f1 = y.f1
      · by_cases h2 : x.f2.toList = y.f2.toList
        · exact absurd (S_ext h0 h1 h2) h
        · simp [h2]
      · simp [h1]
    · simp [h0]
theorem list_same {α : Type} (d : α) {a b : List α} (hl : a.length = b.length) : (∀ j, j < a.length → a.getD j d = b.getD j d) ↔ a = b := by
  constructor
  · intro h
    apply List.ext_getElem hl
    intro i h1 h2
    have := h i h1
    rwa [List.getD_eq_getElem?_getD, List.getD_eq_getElem?_getD, List.getElem?_eq_getElem h1, List.getElem?_eq_getElem h2] at this
  · rintro rfl j _
    rfl
theorem spec_same (a b : List S77) (ha : a.length ≤ 1000000000) : ∃ t, (∀ k, a.length + 1 ≤ k → spec_l3Same.f k a b = some t) ∧ (t = true ↔ a = b) := by
  by_cases hl : a.length = b.length
  · obtain ⟨t, ht, ht'⟩ := scan_all (fun k i => spec_l3Same.l0 k a b i) a.length 0 (fun j => a.getD j z77 = b.getD j z77) true
      (by
        intro k j _ hj g
        show spec_l3Same.l0 (k + 1) a b j = _
        rw [spec_l3Same.l0, if_pos (by omega), if_pos (by omega), if_pos (by omega), rdV, rdV, if_neg (fun h => (ne_iff (a.getD j z77) (b.getD j z77)).1 h g), show wrap64 ((j : Int) + 1) = ((j + 1 : Nat) : Int) by rw [w64g (by omega)]; omega])
      (by
        intro k j _ hj g
        show spec_l3Same.l0 (k + 1) a b j = _
        rw [spec_l3Same.l0, if_pos (by omega), if_pos (by omega), if_pos (by omega), rdV, rdV, if_pos ((ne_iff (a.getD j z77) (b.getD j z77)).2 g)])
      (by
        intro k _
        show spec_l3Same.l0 (k + 1) a b a.length = _
        rw [spec_l3Same.l0, if_neg (by omega)])
    refine ⟨t, fun k hk => ?_, by rw [ht', list_same z77 hl]; simp⟩
    unfold spec_l3Same.f
    rw [if_pos (by omega)]
    exact ht k (by omega)
  · refine ⟨false, fun k hk => ?_, ⟨fun h => (by cases h), fun h => absurd (congrArg List.length h) hl⟩⟩
    unfold spec_l3Same.f
    rw [if_neg (by omega)]
theorem impl_same (a b : List S77) (ha : a.length ≤ 1000000000) : ∃ t, (∀ k, a.length + 1 ≤ k → impl_Value_57.f k a b = some t) ∧ (t = true ↔ a = b) := by
  by_cases hl : a.length = b.length
  · obtain ⟨t, ht, ht'⟩ := scan_all (fun k i => impl_Value_57.l0 k a b (a.length : Int) i) a.length 0 (fun j => a.getD j z77 = b.getD j z77) true
      (by
        intro k j _ hj g
        show impl_Value_57.l0 (k + 1) a b a.length j = _
        rw [impl_Value_57.l0, if_pos (by omega), if_pos (by omega), if_pos (by omega), if_pos (by omega), rdV, rdV, if_neg (fun h => (ne_iff (a.getD j z77) (b.getD j z77)).1 h g), show wrap64 ((j : Int) + 1) = ((j + 1 : Nat) : Int) by rw [w64g (by omega)]; omega])
      (by
        intro k j _ hj g
        show impl_Value_57.l0 (k + 1) a b a.length j = _
        rw [impl_Value_57.l0, if_pos (by omega), if_pos (by omega), if_pos (by omega), if_pos (by omega), rdV, rdV, if_pos ((ne_iff (a.getD j z77) (b.getD j z77)).2 g)])
      (by
        intro k _
        show impl_Value_57.l0 (k + 1) a b a.length a.length = _
        rw [impl_Value_57.l0, if_neg (by omega)])
    refine ⟨t, fun k hk => ?_, by rw [ht', list_same z77 hl]; simp⟩
    unfold impl_Value_57.f
    rw [if_pos (by omega)]
    exact ht k (by omega)
  · refine ⟨false, fun k hk => ?_, ⟨fun h => (by cases h), fun h => absurd (congrArg List.length h) hl⟩⟩
    unfold impl_Value_57.f
    rw [if_neg (by omega)]
abbrev ShortR (l : List (List S77)) : Prop := l.length ≤ 3000000 ∧ ∀ r ∈ l, r.length ≤ 1048576
theorem cnt_at (l : List (List S77)) (r : List S77) (j : Nat) (hj : j < l.length) (t : Bool) (ht : t = true ↔ l.getD j [] = r) : cnt (l.take (j + 1)) r = if t = true then cnt (l.take j) r + 1 else cnt (l.take j) r := by
  have e : l.getD j [] = l[j] := by rw [List.getD_eq_getElem?_getD, List.getElem?_eq_getElem hj]; rfl
  rw [e] at ht
  rw [cnt_take_succ l j hj]
  by_cases h : t = true
  · rw [if_pos h, if_pos (ht.1 h)]
  · rw [if_neg h, if_neg (fun g => h (ht.2 g))]
    rfl
theorem spec_many (l : List (List S77)) (r : List S77) (hl : ShortR l) : ∀ k, 5000000 ≤ k → spec_RowMany.f k l r = some (cnt l r : Int) := by
  intro k hk
  have hc := cnt_le l r
  have hl1 := hl.1
  have := go_all (fun k i => spec_RowMany.l0 k l r (cnt (l.take i.toNat) r : Int) i) l.length 1048578 1 (cnt l r : Int) ?_ ?_ k (by omega)
  · simp only [Int.toNat_zero, List.take_zero, cnt_nil] at this
    exact this
  · intro k j hk hj
    have hr := hl.2 _ (mem_getD l [] j hj)
    obtain ⟨t, ht, ht'⟩ := spec_same (l.getD j []) r (by omega)
    have e := cnt_at l r j hj t ht'
    have hcj := cnt_le (l.take (j + 1)) r
    have hcj2 := cnt_le (l.take j) r
    rw [List.length_take] at hcj hcj2
    show spec_RowMany.l0 (k + 1) l r (cnt (l.take (j : Int).toNat) r : Int) j = spec_RowMany.l0 k l r (cnt (l.take (((j + 1 : Nat) : Int)).toNat) r : Int) ((j + 1 : Nat) : Int)
    rw [Int.toNat_natCast, Int.toNat_natCast, spec_RowMany.l0, if_pos (by omega), if_pos (by omega)]
    show ((spec_l3Same.f k (l.getD j []) r).bind _) = _
    rw [ht k (by omega), Option.bind_some, show wrap64 ((j : Int) + 1) = ((j + 1 : Nat) : Int) by rw [w64g (by omega)]; omega, e]
    by_cases h : t = true
    · rw [if_pos h, if_pos h, w64g (by omega)]
      rfl
    · rw [if_neg h, if_neg h]
  · intro k hk
    show spec_RowMany.l0 (k + 1) l r (cnt (l.take (l.length : Int).toNat) r : Int) l.length = _
    rw [spec_RowMany.l0, if_neg (by omega), Int.toNat_natCast, List.take_length]
theorem impl_many (l : List (List S77)) (r : List S77) (hl : ShortR l) : ∀ k, 5000000 ≤ k → impl_RowMany.f k l r = some (cnt l r : Int) := by
  intro k hk
  have hc := cnt_le l r
  have hl1 := hl.1
  have := go_all (fun k i => impl_RowMany.l0 k r (cnt (l.take i.toNat) r : Int) l (l.length : Int) i) l.length 1048578 1 (cnt l r : Int) ?_ ?_ k (by omega)
  · simp only [Int.toNat_zero, List.take_zero, cnt_nil] at this
    exact this
  · intro k j hk hj
    have hr := hl.2 _ (mem_getD l [] j hj)
    obtain ⟨t, ht, ht'⟩ := impl_same (l.getD j []) r (by omega)
    have e := cnt_at l r j hj t ht'
    have hcj := cnt_le (l.take (j + 1)) r
    have hcj2 := cnt_le (l.take j) r
    rw [List.length_take] at hcj hcj2
    show impl_RowMany.l0 (k + 1) r (cnt (l.take (j : Int).toNat) r : Int) l l.length j = impl_RowMany.l0 k r (cnt (l.take (((j + 1 : Nat) : Int)).toNat) r : Int) l l.length ((j + 1 : Nat) : Int)
    rw [Int.toNat_natCast, Int.toNat_natCast, impl_RowMany.l0, if_pos (by omega), if_pos (by omega), if_pos (by omega)]
    show ((impl_Value_57.f k (l.getD j []) r).bind _) = _
    rw [ht k (by omega), Option.bind_some, show wrap64 ((j : Int) + 1) = ((j + 1 : Nat) : Int) by rw [w64g (by omega)]; omega, e]
    by_cases h : t = true
    · rw [if_pos h, if_pos h, w64g (by omega)]
      rfl
    · rw [if_neg h, if_neg h]
  · intro k hk
    show impl_RowMany.l0 (k + 1) r (cnt (l.take (l.length : Int).toNat) r : Int) l l.length l.length = _
    rw [impl_RowMany.l0, if_neg (by omega), Int.toNat_natCast, List.take_length]

end Go.Proofs.Ytikjhhjmdknhiaa.Pure
set_option linter.unusedVariables false
set_option linter.unusedSimpArgs false
namespace Go.Proofs.Ytikjhhjmdknhiaa.Pure
open Go.RowKit Go.Proofs.Ytikjhhjmdknhiaa.X Go.Proofs.YtikjhhjmdknhiaaV.PrintWords Go.Proofs.YtikjhhjmdknhiaaV.PrintLast Go.Proofs.YtikjhhjmdknhiaaV.PrintMore

theorem strNums_size (xs : List Int) : (strOfNums xs).size = xs.length := by
  unfold strOfNums
  simp [ByteArray.size]
theorem text_loop : ∀ (m : Nat) (n : Int), n.toNat = m → 0 ≤ n → n ≤ 1152921504606846976 → ∀ (s : ByteArray), s.size + m ≤ 2305843009213693952 → ∃ r, ∀ k, m + 1 ≤ k → laws_markText.l0 k n s = some r := by
  intro m
  induction m using Nat.strongRecOn with
  | _ m ih =>
    intro n hm h0 h1 s hs
    by_cases hn : n > 0
    · have e1 : wrap64 (Int.tdiv n 10) = n / 10 := by
        rw [Int.tdiv_eq_ediv_of_nonneg h0]
        exact w64g (by omega)
      obtain ⟨r, hr⟩ := ih (n / 10).toNat (by omega) (n / 10) rfl (by omega) (by omega) (strOfNums [(wrap64 (48 + (Int.tmod n 10))) % 256] ++ s) (by rw [ByteArray.size_append, strNums_size, List.length_singleton]; omega)
      refine ⟨r, fun k hk => ?_⟩
      obtain ⟨k, rfl⟩ : ∃ j, k = j + 1 := ⟨k - 1, by omega⟩
      rw [laws_markText.l0, if_pos hn, Option.bind_some, if_pos (by rw [strNums_size, List.length_singleton]; omega), e1]
      exact hr k (by omega)
    · refine ⟨(⟨#[109]⟩ : ByteArray) ++ s, fun k hk => ?_⟩
      obtain ⟨k, rfl⟩ : ∃ j, k = j + 1 := ⟨k - 1, by omega⟩
      rw [laws_markText.l0, if_neg hn, if_pos (by omega)]
theorem text_some (n : Int) (h1 : n ≤ 1152921504606846976) : ∃ r, ∀ k, n.toNat + 1 ≤ k → laws_markText.f k n = some r := by
  unfold laws_markText.f
  by_cases h : n ≤ 0
  · exact ⟨_, fun k _ => by rw [if_pos h]⟩
  · obtain ⟨r, hr⟩ := text_loop n.toNat n rfl (by omega) h1 ⟨#[]⟩ (by show 0 + n.toNat ≤ _; omega)
    exact ⟨r, fun k hk => by rw [if_neg h]; exact hr k hk⟩
/-- The text of a number. -/
def txt (n : Int) : ByteArray := (laws_markText.f (n.toNat + 1) n).getD ⟨#[]⟩
theorem txt_ok (n : Int) (h1 : n ≤ 1152921504606846976) : ∀ k, n.toNat + 1 ≤ k → laws_markText.f k n = some (txt n) := by
  obtain ⟨r, hr⟩ := text_some n h1
  intro k hk
  unfold txt
  rw [hr k hk, hr (n.toNat + 1) (Nat.le_refl _)]
  rfl
def vAt (v : Int) (i : Nat) : S77 := ⟨v + 3 * i, v + 3 * i + 1, txt (v + 3 * i + 2)⟩
def marksV (v : Int) (n : Nat) : List S77 := (List.range n).map (vAt v)
theorem marksV_len (v : Int) (n : Nat) : (marksV v n).length = n := by unfold marksV; rw [List.length_map, List.length_range]
theorem marksV_at (v : Int) (n j : Nat) (hj : j < n) (d : S77) : (marksV v n).getD j d = vAt v j := by
  unfold marksV
  rw [List.getD_eq_getElem?_getD, List.getElem?_map, List.getElem?_range hj]
  rfl
theorem markS_ok (l : List S77) (hl : l.length ≤ 1048576) (v : Int) (h0 : 0 ≤ v) (h1 : v ≤ 70368744177664) : ∀ k, 140737488355328 ≤ k → laws_markValueS.f k l v = some (v + 3 * l.length, marksV v l.length) := by
  have main : ∀ e i, i + e = l.length → ∀ k, 100000000000000 + e + 1 ≤ k → laws_markValueS.l0 k ((marksV v l.length).take i ++ l.drop i) (v + 3 * i) (i : Int) = some (v + 3 * l.length, marksV v l.length) := by
    intro e
    induction e with
    | zero =>
      intro i hi k hk
      have hi : i = l.length := by omega
      subst hi
      obtain ⟨k, rfl⟩ : ∃ m, k = m + 1 := ⟨k - 1, by omega⟩
      have hz : ((marksV v l.length).take l.length ++ l.drop l.length) = marksV v l.length := by
        rw [List.drop_of_length_le (Nat.le_refl _), List.append_nil, List.take_of_length_le (by rw [marksV_len]; omega)]
      rw [hz, laws_markValueS.l0, if_neg (by rw [marksV_len]; omega)]
    | succ e ih =>
      intro i hi k hk
      obtain ⟨k, rfl⟩ : ∃ m, k = m + 1 := ⟨k - 1, by omega⟩
      have hi' : i < l.length := by omega
      have hi2 : i < (marksV v l.length).length := by rw [marksV_len]; exact hi'
      have hlt : ((marksV v l.length).take i).length = i := by rw [List.length_take, marksV_len]; omega
      have hlen : ((marksV v l.length).take i ++ l.drop i).length = l.length := by
        rw [List.length_append, hlt, List.length_drop]
        omega
      obtain ⟨X, hX⟩ : ∃ X, (marksV v l.length).take i ++ l.drop i = X := ⟨_, rfl⟩
      have eX : ∀ y, X.set i y = (marksV v l.length).take i ++ y :: l.drop (i + 1) := by
        intro y
        rw [← hX, List.set_append_right _ _ (by omega), hlt, Nat.sub_self, List.drop_eq_getElem_cons hi', List.set_cons_zero]
      have rX : ∀ y, rd_T77 (X.set i y) (i : Int) = y := by
        intro y
        show (X.set i y).getD i _ = y
        rw [eX, List.getD_eq_getElem?_getD, List.getElem?_append_right (by omega), hlt, Nat.sub_self]
        rfl
      rw [hX] at hlen ⊢
      have e1 : wrap64 (v + 3 * (i : Int) + 1) = v + 3 * i + 1 := w64g (by omega)
      have e2 : wrap64 (v + 3 * (i : Int) + 1 + 1) = v + 3 * i + 2 := by rw [w64g (by omega)]; omega
      have e3 : wrap64 (v + 3 * (i : Int) + 2 + 1) = v + 3 * ((i + 1 : Nat) : Int) := by rw [w64g (by omega)]; omega
      rw [laws_markValueS.l0, if_pos (by omega), if_pos (by omega), Option.bind_some, Int.toNat_natCast, rX, Option.bind_some, e1, e2, txt_ok _ (by omega) _ (by omega), Option.bind_some]
      simp only [List.set_set, rX]
      rw [e3, show wrap64 ((i : Int) + 1) = ((i + 1 : Nat) : Int) by rw [w64g (by omega)]; omega, eX]
      have := ih (i + 1) (by omega) k (by omega)
      rw [List.take_succ_eq_append_getElem hi2, List.append_assoc] at this
      have em : (marksV v l.length)[i] = vAt v i := by
        have h1 := marksV_at v l.length i hi' z77
        rw [List.getD_eq_getElem?_getD, List.getElem?_eq_getElem hi2] at h1
        exact h1
      rw [em] at this
      exact this
  intro k hk
  have := main l.length 0 (by omega) k (by omega)
  rw [List.take_zero, List.drop_zero, List.nil_append] at this
  unfold laws_markValueS.f
  simpa using this
theorem heldS_ok (n : Nat) (hn : n ≤ 1048576) (v : Int) (h0 : 0 ≤ v) (h1 : v ≤ 70368744177664) : ∀ k, 140737488355328 ≤ k → laws_heldValueS.f k (marksV v n) v = some (v + 3 * n) := by
  intro k hk
  have := go_all (fun k i => laws_heldValueS.l0 k (marksV v n) (v + 3 * i) i) n 100000000000000 1 (v + 3 * n) ?_ ?_ k (by omega)
  · unfold laws_heldValueS.f
    simpa using this
  · intro k j hk hj
    show laws_heldValueS.l0 (k + 1) (marksV v n) (v + 3 * (j : Int)) (j : Int) = _
    have hr : rd_T77 (marksV v n) (j : Int) = vAt v j := marksV_at v n j hj _
    have e1 : wrap64 (v + 3 * (j : Int) + 1) = v + 3 * j + 1 := w64g (by omega)
    have e2 : wrap64 (v + 3 * (j : Int) + 1 + 1) = v + 3 * j + 2 := by rw [w64g (by omega)]; omega
    have e3 : wrap64 (v + 3 * (j : Int) + 2 + 1) = v + 3 * ((j + 1 : Nat) : Int) := by rw [w64g (by omega)]; omega
    rw [laws_heldValueS.l0, if_pos (by rw [marksV_len]; omega), if_pos (by omega), hr, if_pos (show (vAt v j).f0 = v + 3 * (j : Int) from rfl), e1, if_pos (show (vAt v j).f1 = v + 3 * (j : Int) + 1 from rfl), e2, txt_ok _ (by omega) _ (by omega), Option.bind_some, if_pos (show (vAt v j).f2.toList = (txt (v + 3 * (j : Int) + 2)).toList from rfl), e3, show wrap64 ((j : Int) + 1) = ((j + 1 : Nat) : Int) by rw [w64g (by omega)]; omega]
  · intro k _
    show laws_heldValueS.l0 (k + 1) (marksV v n) (v + 3 * (n : Int)) (n : Int) = _
    rw [laws_heldValueS.l0, if_neg (by rw [marksV_len]; omega)]
/-! Rows. -/
def tot : List (List S77) → Nat
  | [] => 0
  | r :: t => r.length + tot t
def marksR : Int → List (List S77) → List (List S77)
  | _, [] => []
  | v, r :: t => marksV v r.length :: marksR (v + 3 * r.length) t
theorem marksR_len : ∀ (l : List (List S77)) (v : Int), (marksR v l).length = l.length
  | [], _ => rfl
  | r :: t, v => by rw [marksR, List.length_cons, List.length_cons, marksR_len t]
theorem tot_le : ∀ (l : List (List S77)), (∀ r ∈ l, r.length ≤ 1048576) → tot l ≤ l.length * 1048576
  | [], _ => Nat.zero_le _
  | r :: t, h => by
    have h1 := tot_le t (fun x hx => h x (List.mem_cons_of_mem _ hx))
    have h2 := h r List.mem_cons_self
    rw [tot, List.length_cons, Nat.succ_mul]
    omega
theorem tot_take : ∀ (l : List (List S77)) (j : Nat) (hj : j < l.length), tot (l.take (j + 1)) = tot (l.take j) + (l.getD j []).length
  | r :: t, 0, _ => by simp [tot]
  | r :: t, j + 1, hj => by
    have := tot_take t j (by simpa using hj)
    rw [List.take_succ_cons, List.take_succ_cons, tot, tot, this]
    simp only [List.getD_cons_succ]
    omega
theorem tot_take_le : ∀ (l : List (List S77)) (j : Nat), tot (l.take j) ≤ tot l
  | [], j => by simp [tot]
  | r :: t, 0 => by simp [tot]
  | r :: t, j + 1 => by
    have := tot_take_le t j
    rw [List.take_succ_cons, tot, tot]
    omega
theorem marksR_at : ∀ (l : List (List S77)) (v : Int) (j : Nat) (_ : j < l.length), (marksR v l).getD j [] = marksV (v + 3 * tot (l.take j)) (l.getD j []).length
  | r :: t, v, 0, _ => by simp [marksR, tot]
  | r :: t, v, j + 1, hj => by
    rw [marksR, List.getD_cons_succ, marksR_at t _ j (by simpa using hj), List.take_succ_cons, tot, List.getD_cons_succ]
    congr 1
    simp only [Int.natCast_add]
    omega
theorem markR_ok (l : List (List S77)) (hl : l.length ≤ 1048576) (hr : ∀ r ∈ l, r.length ≤ 1048576) (v : Int) (h0 : 0 ≤ v) (h1 : v ≤ 17592186044416) : ∀ k, 281474976710656 ≤ k → laws_markValueSS.f k l v = some (v + 3 * tot l, marksR v l) := by
  have ht := tot_le l hr
  have ht2 : tot l ≤ 1099511627776 := Nat.le_trans ht (by omega)
  have main : ∀ e i, i + e = l.length → ∀ k, 140737488355328 + e + 1 ≤ k → laws_markValueSS.l0 k ((marksR v l).take i ++ l.drop i) (v + 3 * tot (l.take i)) (i : Int) = some (v + 3 * tot l, marksR v l) := by
    intro e
    induction e with
    | zero =>
      intro i hi k hk
      have hi : i = l.length := by omega
      subst hi
      obtain ⟨k, rfl⟩ : ∃ m, k = m + 1 := ⟨k - 1, by omega⟩
      have hz : ((marksR v l).take l.length ++ l.drop l.length) = marksR v l := by
        rw [List.drop_of_length_le (Nat.le_refl _), List.append_nil, List.take_of_length_le (by rw [marksR_len]; omega)]
      rw [hz, laws_markValueSS.l0, if_neg (by rw [marksR_len]; omega), List.take_length]
    | succ e ih =>
      intro i hi k hk
      obtain ⟨k, rfl⟩ : ∃ m, k = m + 1 := ⟨k - 1, by omega⟩
      have hi' : i < l.length := by omega
      have hi2 : i < (marksR v l).length := by rw [marksR_len]; exact hi'
      have hlt : ((marksR v l).take i).length = i := by rw [List.length_take, marksR_len]; omega
      have hlen : ((marksR v l).take i ++ l.drop i).length = l.length := by
        rw [List.length_append, hlt, List.length_drop]
        omega
      have hti := tot_take_le l i
      have hx : l.getD i [] = l[i] := by rw [List.getD_eq_getElem?_getD, List.getElem?_eq_getElem hi']; rfl
      have hri := hr _ (List.getElem_mem hi')
      obtain ⟨X, hX⟩ : ∃ X, (marksR v l).take i ++ l.drop i = X := ⟨_, rfl⟩
      have gX : X.getD i [] = l[i] := by
        rw [← hX, List.getD_eq_getElem?_getD, List.getElem?_append_right (by omega), hlt, Nat.sub_self, List.drop_eq_getElem_cons hi']
        rfl
      have eX : ∀ y, X.set i y = (marksR v l).take i ++ y :: l.drop (i + 1) := by
        intro y
        rw [← hX, List.set_append_right _ _ (by omega), hlt, Nat.sub_self, List.drop_eq_getElem_cons hi', List.set_cons_zero]
      rw [hX] at hlen ⊢
      rw [laws_markValueSS.l0, if_pos (by omega), if_pos (by omega), Int.toNat_natCast, gX, markS_ok _ hri _ (by omega) (by omega) k (by omega), Option.bind_some, show wrap64 ((i : Int) + 1) = ((i + 1 : Nat) : Int) by rw [w64g (by omega)]; omega, eX]
      have := ih (i + 1) (by omega) k (by omega)
      rw [List.take_succ_eq_append_getElem hi2, List.append_assoc, tot_take l i hi', hx] at this
      have em : (marksR v l)[i] = marksV (v + 3 * tot (l.take i)) l[i].length := by
        have h1 := marksR_at l v i hi'
        rw [List.getD_eq_getElem?_getD, List.getElem?_eq_getElem hi2, hx] at h1
        exact h1
      rw [em] at this
      rw [show v + 3 * (tot (l.take i) : Int) + 3 * (l[i].length : Int) = v + 3 * ((tot (l.take i) + l[i].length : Nat) : Int) by omega]
      exact this
  intro k hk
  have := main l.length 0 (by omega) k (by omega)
  rw [List.take_zero, List.drop_zero, List.nil_append, List.take_zero] at this
  unfold laws_markValueSS.f
  simpa [tot] using this
theorem heldR_ok (l : List (List S77)) (hl : l.length ≤ 1048576) (hr : ∀ r ∈ l, r.length ≤ 1048576) (v : Int) (h0 : 0 ≤ v) (h1 : v ≤ 17592186044416) : ∀ k, 281474976710656 ≤ k → laws_heldValueSS.f k (marksR v l) v = some (v + 3 * tot l) := by
  have ht := tot_le l hr
  have ht2 : tot l ≤ 1099511627776 := Nat.le_trans ht (by omega)
  intro k hk
  have := go_all (fun k i => laws_heldValueSS.l0 k (marksR v l) (v + 3 * tot (l.take i.toNat)) i) l.length 140737488355328 1 (v + 3 * tot l) ?_ ?_ k (by omega)
  · unfold laws_heldValueSS.f
    simpa [tot] using this
  · intro k j hk hj
    have hti := tot_take_le l j
    have hrj := hr _ (mem_getD l [] j hj)
    show laws_heldValueSS.l0 (k + 1) (marksR v l) (v + 3 * tot (l.take (j : Int).toNat)) (j : Int) = laws_heldValueSS.l0 k (marksR v l) (v + 3 * tot (l.take ((j + 1 : Nat) : Int).toNat)) ((j + 1 : Nat) : Int)
    rw [Int.toNat_natCast, Int.toNat_natCast, laws_heldValueSS.l0, if_pos (by rw [marksR_len]; omega), if_pos (by omega)]
    show ((laws_heldValueS.f k ((marksR v l).getD j []) (v + 3 * tot (l.take j))).bind _) = _
    rw [marksR_at l v j hj, heldS_ok _ hrj _ (by omega) (by omega) k (by omega), Option.bind_some, if_neg (by omega), show wrap64 ((j : Int) + 1) = ((j + 1 : Nat) : Int) by rw [w64g (by omega)]; omega, tot_take l j hj, show v + 3 * (tot (l.take j) : Int) + 3 * ((l.getD j []).length : Int) = v + 3 * ((tot (l.take j) + (l.getD j []).length : Nat) : Int) by omega]
  · intro k _
    show laws_heldValueSS.l0 (k + 1) (marksR v l) (v + 3 * tot (l.take (l.length : Int).toNat)) (l.length : Int) = _
    rw [laws_heldValueSS.l0, if_neg (by rw [marksR_len]; omega), Int.toNat_natCast, List.take_length]

end Go.Proofs.Ytikjhhjmdknhiaa.Pure
set_option linter.unusedVariables false
set_option linter.unusedSimpArgs false
namespace Go.Proofs.Ytikjhhjmdknhiaa.Pure
open Go.RowKit Go.Proofs.Ytikjhhjmdknhiaa.X Go.Proofs.YtikjhhjmdknhiaaV.PrintWords Go.Proofs.YtikjhhjmdknhiaaV.PrintLast Go.Proofs.YtikjhhjmdknhiaaV.PrintMore

theorem rdL (l : List (List S77)) (j : Nat) : rd_L5 l (j : Int) = l.getD j [] := rfl
theorem own_eq (r : List S77) (h : r.length ≤ 1048576) : spec_l3Own.f r = some r := by
  unfold spec_l3Own.f
  rw [Option.bind_some, if_pos (by simp only [List.length_nil]; omega), List.nil_append]
theorem once_short (l : List (List S77)) (hl : l.length ≤ 1048576) (hr : ∀ r ∈ l, r.length ≤ 1048576) (j : Nat) : (once (l.take j)).length ≤ 1048576 ∧ ShortR (once (l.take j)) := by
  obtain ⟨_, h2, h3⟩ := once_all (l.take j)
  have : (l.take j).length ≤ l.length := by rw [List.length_take]; omega
  exact ⟨by omega, by omega, fun r h => hr r (List.take_subset _ _ ((h2 r).1 h))⟩
theorem once_take_succ (l : List (List S77)) (j : Nat) (hj : j < l.length) : once (l.take (j + 1)) = onceStep (once (l.take j)) (l.getD j []) := by
  rw [List.take_succ_eq_append_getElem hj, once_snoc]
  congr 1
  rw [List.getD_eq_getElem?_getD, List.getElem?_eq_getElem hj]
  rfl
theorem copy_eq (l : List (List S77)) (hl : l.length ≤ 1048576) (hr : ∀ r ∈ l, r.length ≤ 1048576) : impl_rowsCopy.f l = some l := by
  unfold impl_rowsCopy.f
  rw [if_pos ⟨by omega, fun r h => by have := hr r h; omega⟩]
theorem spec_once (l : List (List S77)) (hl : l.length ≤ 1048576) (hr : ∀ r ∈ l, r.length ≤ 1048576) : ∀ k, 10000000 ≤ k → spec_RowsOnce.f k l = some (once l) := by
  intro k hk
  have := go_all (fun k i => spec_RowsOnce.l0 k l (once (l.take i.toNat)) i) l.length 5000000 1 (once l) ?_ ?_ k (by omega)
  · first | (unfold spec_RowsOnce.f; simpa [once] using this) | (unfold impl_RowsOnce.f; simpa [once] using this)
  · intro k j hk hj
    have hrj := hr _ (mem_getD l [] j hj)
    obtain ⟨h1, h2⟩ := once_short l hl hr j
    show spec_RowsOnce.l0 (k + 1) l (once (l.take (j : Int).toNat)) (j : Int) = spec_RowsOnce.l0 k l (once (l.take ((j + 1 : Nat) : Int).toNat)) ((j + 1 : Nat) : Int)
    rw [Int.toNat_natCast, Int.toNat_natCast, spec_RowsOnce.l0, if_pos (by omega), if_pos (by omega), rdL]
    rw [spec_many _ _ h2 k (by omega), Option.bind_some, own_eq _ hrj, show wrap64 ((j : Int) + 1) = ((j + 1 : Nat) : Int) by rw [w64g (by omega)]; omega, once_take_succ l j hj]
    unfold onceStep
    by_cases h : cnt (once (l.take j)) (l.getD j []) = 0
    · rw [if_pos (by omega), if_pos h, Option.bind_some, if_pos (by omega)]
    · rw [if_neg (by omega), if_neg h]
  · intro k _
    show spec_RowsOnce.l0 (k + 1) l (once (l.take (l.length : Int).toNat)) (l.length : Int) = _
    rw [spec_RowsOnce.l0, if_neg (by omega), Int.toNat_natCast, List.take_length]
theorem impl_once (l : List (List S77)) (hl : l.length ≤ 1048576) (hr : ∀ r ∈ l, r.length ≤ 1048576) : ∀ k, 10000000 ≤ k → impl_RowsOnce.f k l = some (once l) := by
  intro k hk
  have := go_all (fun k i => impl_RowsOnce.l0 k (once (l.take i.toNat)) l (l.length : Int) i) l.length 5000000 1 (once l) ?_ ?_ k (by omega)
  · first | (unfold spec_RowsOnce.f; simpa [once] using this) | (unfold impl_RowsOnce.f; simpa [once] using this)
  · intro k j hk hj
    have hrj := hr _ (mem_getD l [] j hj)
    obtain ⟨h1, h2⟩ := once_short l hl hr j
    show impl_RowsOnce.l0 (k + 1) (once (l.take (j : Int).toNat)) l (l.length : Int) (j : Int) = impl_RowsOnce.l0 k (once (l.take ((j + 1 : Nat) : Int).toNat)) l (l.length : Int) ((j + 1 : Nat) : Int)
    rw [Int.toNat_natCast, Int.toNat_natCast, impl_RowsOnce.l0, if_pos (by omega), if_pos (by omega), if_pos (by omega), rdL]
    unfold impl_rowsHas.f
    rw [impl_many _ _ h2 k (by omega), Option.bind_some, Option.bind_some, show wrap64 ((j : Int) + 1) = ((j + 1 : Nat) : Int) by rw [w64g (by omega)]; omega, once_take_succ l j hj]
    unfold onceStep
    by_cases h : cnt (once (l.take j)) (l.getD j []) = 0
    · rw [if_neg (by rw [decide_eq_true_iff]; omega), if_pos h, if_pos (by omega)]
    · rw [if_pos (by rw [decide_eq_true_iff]; omega), if_neg h]
  · intro k _
    obtain ⟨h1, h2⟩ := once_short l hl hr l.length
    rw [List.take_length] at h1 h2
    show impl_RowsOnce.l0 (k + 1) (once (l.take (l.length : Int).toNat)) l (l.length : Int) (l.length : Int) = _
    rw [impl_RowsOnce.l0, if_neg (by omega), Int.toNat_natCast, List.take_length, copy_eq _ h1 h2.2, Option.bind_some]
/-! Without others. -/
theorem less_short (b l : List (List S77)) (hl : l.length ≤ 1048576) (hr : ∀ r ∈ l, r.length ≤ 1048576) (j : Nat) : (lessGo b (l.take j)).1.length ≤ 1048576 ∧ (lessGo b (l.take j)).2.length ≤ 1048576 ∧ (∀ r ∈ (lessGo b (l.take j)).2, r.length ≤ 1048576) := by
  obtain ⟨h1, h2⟩ := lessGo_len b (l.take j)
  have : (l.take j).length ≤ l.length := by rw [List.length_take]; omega
  exact ⟨by omega, by omega, fun r h => hr r (List.take_subset _ _ (h2 r h))⟩
theorem less_gone (b l : List (List S77)) (hr : ∀ r ∈ l, r.length ≤ 1048576) : ∀ j, ∀ r ∈ (lessGo b (l.take j)).1, r.length ≤ 1048576 := by
  intro j
  induction j with
  | zero => intro r h; cases h
  | succ j ih =>
    intro r h
    by_cases hj : j < l.length
    · rw [List.take_succ_eq_append_getElem hj, lessGo_snoc] at h
      unfold lessStep at h
      split at h
      · rcases List.mem_append.1 h with g | g
        · exact ih r g
        · rw [List.mem_singleton] at g
          rw [g]
          exact hr _ (List.getElem_mem hj)
      · exact ih r h
    · rw [List.take_of_length_le (by omega)] at h
      rw [List.take_of_length_le (by omega)] at ih
      exact ih r h
theorem less_take_succ (b l : List (List S77)) (j : Nat) (hj : j < l.length) : lessGo b (l.take (j + 1)) = lessStep b (lessGo b (l.take j)) (l.getD j []) := by
  rw [List.take_succ_eq_append_getElem hj, lessGo_snoc]
  congr 1
  rw [List.getD_eq_getElem?_getD, List.getElem?_eq_getElem hj]
  rfl
theorem spec_less (a b : List (List S77)) (ha : a.length ≤ 1048576) (hr : ∀ r ∈ a, r.length ≤ 1048576) (hb : ShortR b) : ∀ k, 10000000 ≤ k → spec_RowsLess.f k a b = some (lessGo b a).2 := by
  intro k hk
  have := go_all (fun k i => spec_RowsLess.l0 k a b (lessGo b (a.take i.toNat)).2 (lessGo b (a.take i.toNat)).1 i) a.length 5000000 1 (lessGo b a).2 ?_ ?_ k (by omega)
  · first | (unfold spec_RowsLess.f; simpa [lessGo] using this) | (unfold impl_RowsLess.f; simpa [lessGo] using this)
  · intro k j hk hj
    have hrj := hr _ (mem_getD a [] j hj)
    obtain ⟨h1, h2, h3⟩ := less_short b a ha hr j
    have hg : ShortR (lessGo b (a.take j)).1 := ⟨by omega, less_gone b a hr j⟩
    show spec_RowsLess.l0 (k + 1) a b (lessGo b (a.take (j : Int).toNat)).2 (lessGo b (a.take (j : Int).toNat)).1 (j : Int) = spec_RowsLess.l0 k a b (lessGo b (a.take ((j + 1 : Nat) : Int).toNat)).2 (lessGo b (a.take ((j + 1 : Nat) : Int).toNat)).1 ((j + 1 : Nat) : Int)
    rw [Int.toNat_natCast, Int.toNat_natCast, spec_RowsLess.l0, if_pos (by omega), if_pos (by omega), rdL]
    rw [spec_many _ _ hg k (by omega), Option.bind_some, spec_many _ _ hb k (by omega), Option.bind_some, own_eq _ hrj, show wrap64 ((j : Int) + 1) = ((j + 1 : Nat) : Int) by rw [w64g (by omega)]; omega, less_take_succ b a j hj]
    unfold lessStep
    by_cases h : cnt (lessGo b (a.take j)).1 (a.getD j []) < cnt b (a.getD j [])
    · rw [if_pos (by omega), if_pos h, if_pos (by omega)]
    · rw [if_neg (by omega), if_neg h, Option.bind_some, if_pos (by omega)]
  · intro k _
    show spec_RowsLess.l0 (k + 1) a b (lessGo b (a.take (a.length : Int).toNat)).2 _ (a.length : Int) = _
    rw [spec_RowsLess.l0, if_neg (by omega), Int.toNat_natCast, List.take_length]
theorem impl_less (a b : List (List S77)) (ha : a.length ≤ 1048576) (hr : ∀ r ∈ a, r.length ≤ 1048576) (hb : ShortR b) : ∀ k, 10000000 ≤ k → impl_RowsLess.f k a b = some (lessGo b a).2 := by
  intro k hk
  have := go_all (fun k i => impl_RowsLess.l0 k b (lessGo b (a.take i.toNat)).2 (lessGo b (a.take i.toNat)).1 a (a.length : Int) i) a.length 5000000 1 (lessGo b a).2 ?_ ?_ k (by omega)
  · first | (unfold spec_RowsLess.f; simpa [lessGo] using this) | (unfold impl_RowsLess.f; simpa [lessGo] using this)
  · intro k j hk hj
    have hrj := hr _ (mem_getD a [] j hj)
    obtain ⟨h1, h2, h3⟩ := less_short b a ha hr j
    have hg : ShortR (lessGo b (a.take j)).1 := ⟨by omega, less_gone b a hr j⟩
    show impl_RowsLess.l0 (k + 1) b (lessGo b (a.take (j : Int).toNat)).2 (lessGo b (a.take (j : Int).toNat)).1 a (a.length : Int) (j : Int) = impl_RowsLess.l0 k b (lessGo b (a.take ((j + 1 : Nat) : Int).toNat)).2 (lessGo b (a.take ((j + 1 : Nat) : Int).toNat)).1 a (a.length : Int) ((j + 1 : Nat) : Int)
    rw [Int.toNat_natCast, Int.toNat_natCast, impl_RowsLess.l0, if_pos (by omega), if_pos (by omega), if_pos (by omega), rdL]
    rw [impl_many _ _ hg k (by omega), Option.bind_some, impl_many _ _ hb k (by omega), Option.bind_some, show wrap64 ((j : Int) + 1) = ((j + 1 : Nat) : Int) by rw [w64g (by omega)]; omega, less_take_succ b a j hj]
    unfold lessStep
    by_cases h : cnt (lessGo b (a.take j)).1 (a.getD j []) < cnt b (a.getD j [])
    · rw [if_pos (by omega), if_pos h, if_pos (by omega)]
    · rw [if_neg (by omega), if_neg h, if_pos (by omega)]
  · intro k _
    obtain ⟨h1, h2, h3⟩ := less_short b a ha hr a.length
    rw [List.take_length] at h1 h2 h3
    show impl_RowsLess.l0 (k + 1) b (lessGo b (a.take (a.length : Int).toNat)).2 _ a (a.length : Int) (a.length : Int) = _
    rw [impl_RowsLess.l0, if_neg (by omega), Int.toNat_natCast, List.take_length, copy_eq _ h2 h3, Option.bind_some]

end Go.Proofs.Ytikjhhjmdknhiaa.Pure
set_option linter.unusedVariables false
set_option linter.unusedSimpArgs false
namespace Go.Proofs.Ytikjhhjmdknhiaa.Pure
open Go.RowKit Go.Proofs.Ytikjhhjmdknhiaa.X Go.Proofs.YtikjhhjmdknhiaaV.PrintWords Go.Proofs.YtikjhhjmdknhiaaV.PrintLast Go.Proofs.YtikjhhjmdknhiaaV.PrintMore

theorem FnExactRowsLess : laws_FnExactRowsLess.Pure := by
  intro a b ha hb
  obtain ⟨z, hz, hz1, hz2⟩ := szSS_ok a ha.1 (fun r hr => ⟨(ha.2 r hr).1, fun x hx => ((ha.2 r hr).2 x hx).2.2⟩) 1048576 (by decide) (by decide)
  obtain ⟨K, hK⟩ : ∃ K, 562949953421312 ≤ K := ⟨_, Nat.le_refl _⟩
  refine ⟨K, ?_⟩
  unfold laws_FnExactRowsLess.f
  rw [hz _ (by omega), Option.bind_some]
  by_cases h : z < 0
  · rw [if_pos h]
  obtain ⟨hl, hr⟩ := hz2 (by omega)
  obtain ⟨y, hy, _, hy2⟩ := szSS_ok b hb.1 (fun r hr => ⟨(hb.2 r hr).1, fun x hx => ((hb.2 r hr).2 x hx).2.2⟩) z (by omega) hz1
  rw [if_neg h, hy _ (by omega), Option.bind_some]
  by_cases h' : y < 0
  · rw [if_pos h']
  obtain ⟨hbl, hbr⟩ := hy2 (by omega)
  have la : (a.map mkR).length = a.length := List.length_map _
  have lb : (b.map mkR).length = b.length := List.length_map _
  have hsm := mkR_small hr
  have hsb := mkR_small hbr
  have ta : laws_toValueSS.f K a = some (a.map mkR) := toValueSS_eq a hl (fun r h => (hr r h).1) _ (by omega)
  have tb : laws_toValueSS.f K b = some (b.map mkR) := toValueSS_eq b hbl (fun r h => (hbr r h).1) _ (by omega)
  obtain ⟨_, ho1, ho2⟩ := less_short (b.map mkR) (a.map mkR) (by omega) hsm (a.map mkR).length
  rw [List.take_length] at ho1 ho2
  have t1 := tot_le (a.map mkR) hsm
  have t2 := tot_le (b.map mkR) hsb
  have t3 := tot_le (lessGo (b.map mkR) (a.map mkR)).2 ho2
  have t1' : tot (a.map mkR) ≤ 1099511627776 := Nat.le_trans t1 (by rw [la]; omega)
  have t2' : tot (b.map mkR) ≤ 1099511627776 := Nat.le_trans t2 (by rw [lb]; omega)
  rw [if_neg h', ta, Option.bind_some, tb, Option.bind_some, spec_less _ _ (by omega) hsm ⟨by omega, hsb⟩ _ (by omega), Option.bind_some, impl_less _ _ (by omega) hsm ⟨by omega, hsb⟩ _ (by omega), Option.bind_some, eqValueSS_eq _ ho1 ho2 _ (by omega), Option.bind_some, eqValueSS_eq _ (by omega) hsm _ (by omega), Option.bind_some, eqValueSS_eq _ (by omega) hsb _ (by omega), Option.bind_some, markR_ok _ (by omega) hsm 1 (by decide) (by decide) _ (by omega), Option.bind_some, markR_ok _ (by omega) hsb _ (by omega) (by omega) _ (by omega), Option.bind_some, markR_ok _ ho1 ho2 1 (by decide) (by decide) _ (by omega), Option.bind_some]
  show ((laws_heldValueSS.f K (marksR 1 (lessGo (b.map mkR) (a.map mkR)).2) 1).bind _) = _
  rw [heldR_ok _ ho1 ho2 1 (by decide) (by decide) _ (by omega), Option.bind_some, if_pos ⟨rfl, rfl, rfl, by omega, by omega, rfl⟩]

end Go.Proofs.Ytikjhhjmdknhiaa.Pure
