/- The program's SameBag returns what the reference's returns, for all arguments; no condition. -/
import Derived.Test.YtikjhhjmdknhiaaVMore
import Derived.Test.YtikjhhjmdknhiaaX0
import Derived.Test.YtikjhhjmdknhiaaZFnExactSameBag3
set_option linter.unusedVariables false
set_option linter.unusedSimpArgs false
namespace Go.Proofs.Ytikjhhjmdknhiaa.Pure
open Go.RowKit Go.Proofs.YtikjhhjmdknhiaaV.PrintWords Go.Proofs.YtikjhhjmdknhiaaV.PrintLast Go.Proofs.YtikjhhjmdknhiaaV.PrintMore

theorem w64g {n : Int} (h : -9223372036854775808 ≤ n ∧ n ≤ 9223372036854775807) : wrap64 n = n := by unfold wrap64; omega
theorem scan_all (F : Nat → Int → Option Bool) (n K : Nat) (G : Nat → Prop) (fin : Bool)
    (h1 : ∀ k j, K ≤ k → j < n → G j → F (k + 1) (j : Int) = F k ((j + 1 : Nat) : Int))
    (h2 : ∀ k j, K ≤ k → j < n → ¬ G j → F (k + 1) (j : Int) = some false)
    (h3 : ∀ k, K ≤ k → F (k + 1) (n : Int) = some fin) :
    ∃ b, (∀ k, n + 1 + K ≤ k → F k 0 = some b) ∧ (b = true ↔ ((∀ j, j < n → G j) ∧ fin = true)) := by
  have main : ∀ d i, i + d = n → ∃ b, (∀ k, d + 1 + K ≤ k → F k (i : Int) = some b) ∧ (b = true ↔ ((∀ j, i ≤ j → j < n → G j) ∧ fin = true)) := by
    intro d
    induction d with
    | zero =>
      intro i hi
      have hi : i = n := by omega
      subst hi
      refine ⟨fin, fun k hk => ?_, ⟨fun h => ⟨fun j h1 h2 => by omega, h⟩, fun h => h.2⟩⟩
      obtain ⟨k, rfl⟩ : ∃ m, k = m + 1 := ⟨k - 1, by omega⟩
      exact h3 k (by omega)
    | succ d ih =>
      intro i hi
      by_cases g : G i
      · obtain ⟨b, hb, hb'⟩ := ih (i + 1) (by omega)
        refine ⟨b, fun k hk => ?_, ?_⟩
        · obtain ⟨k, rfl⟩ : ∃ m, k = m + 1 := ⟨k - 1, by omega⟩
          rw [h1 k i (by omega) (by omega) g]
          exact hb k (by omega)
        · rw [hb']
          constructor
          · intro h
            refine ⟨fun j hj hj' => ?_, h.2⟩
            by_cases e : j = i
            · rw [e]; exact g
            · exact h.1 j (by omega) hj'
          · intro h
            exact ⟨fun j hj hj' => h.1 j (by omega) hj', h.2⟩
      · refine ⟨false, fun k hk => ?_, ?_⟩
        · obtain ⟨k, rfl⟩ : ∃ m, k = m + 1 := ⟨k - 1, by omega⟩
          exact h2 k i (by omega) (by omega) g
        · constructor
          · intro h
            cases h
          · intro h
            exact absurd (h.1 i (Nat.le_refl _) (by omega)) g
  obtain ⟨b, hb, hb'⟩ := main n 0 (by omega)
  refine ⟨b, hb, ?_⟩
  rw [hb']
  constructor
  · intro h; exact ⟨fun j hj => h.1 j (by omega) hj, h.2⟩
  · intro h; exact ⟨fun j _ hj => h.1 j hj, h.2⟩
theorem go_all {α : Type} (F : Nat → Int → Option α) (n K c : Nat) (r : α)
    (h1 : ∀ k j, K ≤ k → j < n → F (k + c) (j : Int) = F k ((j + 1 : Nat) : Int))
    (h3 : ∀ k, K ≤ k → F (k + c) (n : Int) = some r) : ∀ k, K + c * (n + 1) ≤ k → F k 0 = some r := by
  have main : ∀ d i, i + d = n → ∀ k, K + c * (d + 1) ≤ k → F k (i : Int) = some r := by
    intro d
    induction d with
    | zero =>
      intro i hi k hk
      have hi : i = n := by omega
      subst hi
      obtain ⟨k, rfl⟩ : ∃ m, k = m + c := ⟨k - c, by omega⟩
      exact h3 k (by omega)
    | succ d ih =>
      intro i hi k hk
      have e : c * (d + 1 + 1) = c * (d + 1) + c := Nat.mul_succ _ _
      obtain ⟨k, rfl⟩ : ∃ m, k = m + c := ⟨k - c, by omega⟩
      rw [h1 k i (by omega) (by omega)]
      exact ih (i + 1) (by omega) k (by omega)
  exact main n 0 (by omega)
theorem copy_all {β : Type} (F : Nat → List β → Int → Option (List β)) (L : List β) (x0 : List β) (hx : x0.length = L.length) (d : β)
    (h1 : ∀ k (x : List β) j, j < L.length → x.length = L.length → F (k + 1) x (j : Int) = F k (x.set j (L.getD j d)) ((j + 1 : Nat) : Int))
    (h3 : ∀ k x, x.length = L.length → F (k + 1) x (L.length : Int) = some x) : ∀ k, L.length + 1 ≤ k → F k x0 0 = some L := by
  have main : ∀ e i, i + e = L.length → ∀ k, e + 1 ≤ k → F k (L.take i ++ x0.drop i) (i : Int) = some L := by
    intro e
    induction e with
    | zero =>
      intro i hi k hk
      have hi : i = L.length := by omega
      subst hi
      obtain ⟨k, rfl⟩ : ∃ m, k = m + 1 := ⟨k - 1, by omega⟩
      rw [h3 k _ (by simp [hx]), List.take_length, List.drop_of_length_le (by omega), List.append_nil]
    | succ e ih =>
      intro i hi k hk
      obtain ⟨k, rfl⟩ : ∃ m, k = m + 1 := ⟨k - 1, by omega⟩
      have hlen : (L.take i ++ x0.drop i).length = L.length := by
        rw [List.length_append, List.length_take, List.length_drop]
        omega
      rw [h1 k _ i (by omega) hlen]
      have hi' : i < L.length := by omega
      have hi2 : i < x0.length := by omega
      have e2 : (L.take i ++ x0.drop i).set i (L.getD i d) = L.take (i + 1) ++ x0.drop (i + 1) := by
        rw [List.set_append_right _ _ (by rw [List.length_take]; omega), List.length_take, show i - min i L.length = 0 by omega, List.drop_eq_getElem_cons hi2, List.set_cons_zero]
        rw [List.take_succ_eq_append_getElem hi', List.append_assoc]
        congr 1
        rw [List.getD_eq_getElem?_getD, List.getElem?_eq_getElem hi']
        rfl
      rw [e2]
      exact ih (i + 1) (by omega) k (by omega)
  intro k hk
  have := main L.length 0 (by omega) k hk
  simpa using this
theorem chain_iff {α : Type} (d : α) (Q : α → Prop) (R : α → α → Prop) (tr : ∀ a b c, R a b → R b c → R a c) (l : List α) :
    (∀ j, j < l.length → Q (l.getD j d) ∧ (0 < j → R (l.getD (j - 1) d) (l.getD j d))) ↔ ((∀ x ∈ l, Q x) ∧ l.Pairwise R) := by
  have gd : ∀ j (h : j < l.length), l.getD j d = l[j] := by
    intro j h
    rw [List.getD_eq_getElem?_getD, List.getElem?_eq_getElem h]
    rfl
  constructor
  · intro h
    refine ⟨fun x hx => ?_, ?_⟩
    · obtain ⟨j, hj, rfl⟩ := List.getElem_of_mem hx
      rw [← gd j hj]
      exact (h j hj).1
    · rw [List.pairwise_iff_getElem]
      have main : ∀ e i (hi : i < l.length) (hj : i + e + 1 < l.length), R l[i] l[i + e + 1] := by
        intro e
        induction e with
        | zero =>
          intro i hi hj
          have := (h (i + 0 + 1) hj).2 (by omega)
          rw [gd _ (show i + 0 + 1 - 1 < l.length by omega), gd _ hj] at this
          exact this
        | succ e ih =>
          intro i hi hj
          have h1 := ih i hi (by omega)
          have := (h (i + (e + 1) + 1) hj).2 (by omega)
          rw [gd _ (show i + (e + 1) + 1 - 1 < l.length by omega), gd _ hj] at this
          exact tr _ _ _ h1 this
      intro i j hi hj hij
      obtain ⟨e, rfl⟩ : ∃ e, j = i + e + 1 := ⟨j - i - 1, by omega⟩
      exact main e i hi hj
  · intro h j hj
    refine ⟨?_, fun h0 => ?_⟩
    · rw [gd j hj]
      exact h.1 _ (List.getElem_mem hj)
    · rw [gd j hj, gd (j - 1) (by omega)]
      exact List.pairwise_iff_getElem.1 h.2 (j - 1) j (by omega) hj (by omega)
/-- What holds of a chain holds of the chain without one of its elements. -/
theorem chain_less {α : Type} {Q : α → Prop} {R : α → α → Prop} {l : List α} (h : (∀ x ∈ l, Q x) ∧ l.Pairwise R) (a b : Nat) (hab : a ≤ b) :
    (∀ x ∈ l.take a ++ l.drop b, Q x) ∧ (l.take a ++ l.drop b).Pairwise R := by
  have sub : (l.take a ++ l.drop b).Sublist l := by
    have h1 : (l.take a ++ l.drop b).Sublist (l.take a ++ l.drop a) := by
      apply List.Sublist.append (List.Sublist.refl _)
      rw [show b = a + (b - a) by omega, ← List.drop_drop]
      exact List.drop_sublist _ _
    rwa [List.take_append_drop] at h1
  exact ⟨fun x hx => h.1 x (sub.subset hx), h.2.sublist sub⟩
theorem go_all2 {α : Type} (F : Nat → Int → Option α) (n K : Nat) (r : α)
    (h1 : ∀ k j, K ≤ k → j < n → F (k + 1 + 1) (j : Int) = F k ((j + 1 : Nat) : Int))
    (h3 : ∀ k, K ≤ k → F (k + 1 + 1) (n : Int) = some r) : ∀ k, K + 2 * (n + 1) ≤ k → F k 0 = some r :=
  go_all F n K 2 r h1 h3
theorem any_ok {α : Type} (F : Nat → Int → Option α) (n K : Nat)
    (h1 : ∀ j, j < n → (∃ r, ∀ k, K ≤ k → F (k + 1) (j : Int) = some r) ∨ (∀ k, K ≤ k → F (k + 1) (j : Int) = F k ((j + 1 : Nat) : Int)))
    (h3 : ∃ r, ∀ k, K ≤ k → F (k + 1) (n : Int) = some r) : ∃ r, ∀ k, n + 1 + K ≤ k → F k 0 = some r := by
  have main : ∀ d i, i + d = n → ∃ r, ∀ k, d + 1 + K ≤ k → F k (i : Int) = some r := by
    intro d
    induction d with
    | zero =>
      intro i hi
      have hi : i = n := by omega
      subst hi
      obtain ⟨r, hr⟩ := h3
      refine ⟨r, fun k hk => ?_⟩
      obtain ⟨k, rfl⟩ : ∃ m, k = m + 1 := ⟨k - 1, by omega⟩
      exact hr k (by omega)
    | succ d ih =>
      intro i hi
      rcases h1 i (by omega) with ⟨r, hr⟩ | h
      · refine ⟨r, fun k hk => ?_⟩
        obtain ⟨k, rfl⟩ : ∃ m, k = m + 1 := ⟨k - 1, by omega⟩
        exact hr k (by omega)
      · obtain ⟨r, hr⟩ := ih (i + 1) (by omega)
        refine ⟨r, fun k hk => ?_⟩
        obtain ⟨k, rfl⟩ : ∃ m, k = m + 1 := ⟨k - 1, by omega⟩
        rw [h k (by omega)]
        exact hr k (by omega)
  exact main n 0 (by omega)

end Go.Proofs.Ytikjhhjmdknhiaa.Pure
set_option linter.unusedVariables false
set_option linter.unusedSimpArgs false
namespace Go.Proofs.Ytikjhhjmdknhiaa.Pure
open Go.RowKit Go.Proofs.Ytikjhhjmdknhiaa.X Go.Proofs.YtikjhhjmdknhiaaV.PrintWords Go.Proofs.YtikjhhjmdknhiaaV.PrintLast Go.Proofs.YtikjhhjmdknhiaaV.PrintMore

theorem mem_getD {α : Type} (l : List α) (d : α) (j : Nat) (hj : j < l.length) : l.getD j d ∈ l := by
  rw [List.getD_eq_getElem?_getD, List.getElem?_eq_getElem hj]
  exact List.getElem_mem hj
theorem all_mem {α : Type} (l : List α) (d : α) (P : α → Prop) : (∀ j, j < l.length → P (l.getD j d)) ↔ ∀ x ∈ l, P x := by
  constructor
  · intro h x hx
    obtain ⟨j, hj, rfl⟩ := List.getElem_of_mem hx
    have := h j hj
    rw [List.getD_eq_getElem?_getD, List.getElem?_eq_getElem hj] at this
    exact this
  · intro h j hj
    exact h _ (mem_getD l d j hj)
theorem eqValueS_eq (l : List S77) (hl : l.length ≤ 1000000000) : ∀ k, l.length + 1 ≤ k → laws_eqValueS.f k l l = some true := by
  intro k hk
  unfold laws_eqValueS.f
  rw [if_pos rfl]
  refine go_all (fun k i => laws_eqValueS.l0 k l l i) l.length 0 1 true ?_ ?_ k (by omega)
  · intro k j _ hj
    show laws_eqValueS.l0 (k + 1) l l j = _
    rw [laws_eqValueS.l0, if_pos (by omega), if_pos (by omega), if_pos (by omega), laws_eqValue.f, if_pos rfl, if_pos rfl, if_pos rfl, Option.bind_some, if_pos rfl, show wrap64 ((j : Int) + 1) = ((j + 1 : Nat) : Int) by rw [w64g (by omega)]; omega]
  · intro k _
    show laws_eqValueS.l0 (k + 1) l l l.length = _
    rw [laws_eqValueS.l0, if_neg (by omega)]
def mkV (x : S74) : S77 := ⟨x.f0, x.f1, x.f2⟩
theorem toValueS_eq (l : List S74) (hl : l.length ≤ 1000000000) : ∀ k, l.length + 1 ≤ k → laws_toValueS.f k l = some (l.map mkV) := by
  intro k hk
  unfold laws_toValueS.f
  rw [if_pos (by omega), if_pos (by omega)]
  refine copy_all (fun k x i => laws_toValueS.l0 k l x i) (l.map mkV) (List.replicate ((l.length : Int) : Int).toNat z77) (by rw [List.length_replicate, List.length_map]; omega) (mkV z74) ?_ ?_ k (by simp only [List.length_map]; omega)
  · intro k x j hj hx
    rw [List.length_map] at hj hx
    show laws_toValueS.l0 (k + 1) l x j = _
    rw [laws_toValueS.l0, if_pos (by omega), if_pos (by omega), laws_toValue.f, Option.bind_some, if_pos (by omega), show wrap64 ((j : Int) + 1) = ((j + 1 : Nat) : Int) by rw [w64g (by omega)]; omega, Int.toNat_natCast]
    have : (l.map mkV).getD j (mkV z74) = (⟨(rd_T74 l j).f0, (rd_T74 l j).f1, (rd_T74 l j).f2⟩ : S77) := by
      show _ = mkV (l.getD j z74)
      simp only [List.getD_eq_getElem?_getD, List.getElem?_map]
      cases l[j]? <;> rfl
    rw [this]
  · intro k x hx
    rw [List.length_map] at hx
    show laws_toValueS.l0 (k + 1) l x (l.map _).length = _
    rw [laws_toValueS.l0, List.length_map, if_neg (by omega)]
theorem szS_loop (l : List S74) (hl : l.length ≤ 1000000000) (hm : ∀ x ∈ l, x.f2.size ≤ maxLen) : ∀ (d i : Nat) (left : Int), i + d = l.length → 0 ≤ left → left ≤ 1048576 →
    ∃ z, (∀ k, d + 1 ≤ k → laws_szValueS.l0 k l left (i : Int) = some z) ∧ z ≤ 1048576 ∧ (0 ≤ z → ∀ j, i ≤ j → j < l.length → (l.getD j z74).f2.size ≤ 1048576) := by
  intro d
  induction d with
  | zero =>
    intro i left hi h0 h1
    refine ⟨left, fun k hk => ?_, h1, fun _ j h h' => by omega⟩
    obtain ⟨k, rfl⟩ : ∃ m, k = m + 1 := ⟨k - 1, by omega⟩
    rw [laws_szValueS.l0, if_neg (by omega)]
  | succ d ih =>
    intro i left hi h0 h1
    have hs : (l.getD i z74).f2.size ≤ 9223372036854775807 := Nat.le_trans (hm _ (mem_getD l z74 i (by omega))) (by decide)
    have ew : wrap64 (left - ((l.getD i z74).f2.size : Int)) = left - ((l.getD i z74).f2.size : Int) := w64g (by omega)
    have hu : ∀ k, laws_szValueS.l0 (k + 1) l left (i : Int) = if left - ((l.getD i z74).f2.size : Int) < 0 then some (-1) else laws_szValueS.l0 k l (left - ((l.getD i z74).f2.size : Int)) ((i + 1 : Nat) : Int) := by
      intro k
      rw [laws_szValueS.l0, if_pos (by omega), if_pos (by omega), laws_szValue.f]
      show ((if wrap64 (left - ((l.getD i z74).f2.size : Int)) < 0 then some (-1) else some (wrap64 (left - ((l.getD i z74).f2.size : Int)))).bind _) = _
      rw [ew, show wrap64 ((i : Int) + 1) = ((i + 1 : Nat) : Int) by rw [w64g (by omega)]; omega]
      by_cases h : left - ((l.getD i z74).f2.size : Int) < 0
      · rw [if_pos h, if_pos h, Option.bind_some, if_pos (by decide)]
      · rw [if_neg h, if_neg h, Option.bind_some, if_neg h]
    by_cases h : left - ((l.getD i z74).f2.size : Int) < 0
    · refine ⟨-1, fun k hk => ?_, by omega, fun h => by omega⟩
      obtain ⟨k, rfl⟩ : ∃ m, k = m + 1 := ⟨k - 1, by omega⟩
      rw [hu, if_pos h]
    · obtain ⟨z, hz, hz1, hz2⟩ := ih (i + 1) (left - ((l.getD i z74).f2.size : Int)) (by omega) (by omega) (by omega)
      refine ⟨z, fun k hk => ?_, hz1, fun h' j hj hj' => ?_⟩
      · obtain ⟨k, rfl⟩ : ∃ m, k = m + 1 := ⟨k - 1, by omega⟩
        rw [hu, if_neg h]
        exact hz k (by omega)
      · by_cases e : j = i
        · rw [e]
          omega
        · exact hz2 h' j (by omega) hj'
theorem szS_ok (l : List S74) (hl : l.length ≤ maxLen) (hm : ∀ x ∈ l, x.f2.size ≤ maxLen) (left : Int) (h0 : 0 ≤ left) (h1 : left ≤ 1048576) :
    ∃ z, (∀ k, 1048578 ≤ k → laws_szValueS.f k l left = some z) ∧ z ≤ 1048576 ∧ (0 ≤ z → l.length ≤ 1048576 ∧ ∀ x ∈ l, x.f2.size ≤ 1048576) := by
  have h2 : l.length ≤ 9223372036854775807 := Nat.le_trans hl (by decide)
  have ew : wrap64 (left - (l.length : Int)) = left - l.length := w64g (by omega)
  by_cases h : left - (l.length : Int) < 0
  · refine ⟨-1, fun k _ => ?_, by omega, fun h => by omega⟩
    unfold laws_szValueS.f
    rw [ew, if_pos h]
  · obtain ⟨z, hz, hz1, hz2⟩ := szS_loop l (by omega) hm l.length 0 (left - l.length) (by omega) (by omega) (by omega)
    refine ⟨z, fun k hk => ?_, hz1, fun h' => ⟨by omega, (all_mem l z74 (fun x => x.f2.size ≤ 1048576)).1 fun j hj => hz2 h' j (by omega) hj⟩⟩
    unfold laws_szValueS.f
    rw [ew, if_neg h]
    exact hz k (by omega)
theorem mkV_small {l : List S74} (h : ∀ x ∈ l, x.f2.size ≤ 1048576) : ∀ x ∈ l.map mkV, x.f2.size ≤ 1048576 := by
  intro x hx
  obtain ⟨y, hy, rfl⟩ := List.mem_map.1 hx
  exact h y hy
/-! Lists of rows. -/
abbrev mkR (r : List S74) : List S77 := r.map mkV
theorem getD_map {α β : Type} (f : α → β) (l : List α) (d : α) (d' : β) (j : Nat) (hj : j < l.length) : (l.map f).getD j d' = f (l.getD j d) := by
  simp only [List.getD_eq_getElem?_getD, List.getElem?_map, List.getElem?_eq_getElem hj]
  rfl
theorem toValueSS_eq (l : List (List S74)) (hl : l.length ≤ 1048576) (hi : ∀ r ∈ l, r.length ≤ 1048576) : ∀ k, l.length + 1048580 ≤ k → laws_toValueSS.f k l = some (l.map mkR) := by
  intro k hk
  unfold laws_toValueSS.f
  rw [if_pos (by omega), if_pos (by omega)]
  obtain ⟨k, rfl⟩ : ∃ m, k = m + 1048577 := ⟨k - 1048577, by omega⟩
  refine copy_all (fun k x i => laws_toValueSS.l0 (k + 1048577) l x i) (l.map mkR) (List.replicate ((l.length : Int) : Int).toNat ([] : List S77)) (by rw [List.length_replicate, List.length_map]; omega) [] ?_ ?_ k (by rw [List.length_map]; omega)
  · intro k x j hj hx
    rw [List.length_map] at hj hx
    have hr := hi _ (mem_getD l [] j hj)
    show laws_toValueSS.l0 (k + 1 + 1048577) l x j = _
    rw [show k + 1 + 1048577 = (k + 1048577) + 1 by omega, laws_toValueSS.l0, if_pos (by omega), if_pos (by omega)]
    show ((laws_toValueS.f (k + 1048577) (l.getD j [])).bind _) = _
    rw [toValueS_eq _ (by omega) _ (by omega), Option.bind_some, if_pos (by omega), show wrap64 ((j : Int) + 1) = ((j + 1 : Nat) : Int) by rw [w64g (by omega)]; omega, Int.toNat_natCast, getD_map mkR l [] [] j hj]
  · intro k x hx
    rw [List.length_map] at hx
    show laws_toValueSS.l0 (k + 1 + 1048577) l x (l.map _).length = _
    rw [show k + 1 + 1048577 = (k + 1048577) + 1 by omega, laws_toValueSS.l0, List.length_map, if_neg (by omega)]
abbrev SmallR (r : List S74) : Prop := r.length ≤ 1048576 ∧ ∀ x ∈ r, x.f2.size ≤ 1048576
theorem szSS_loop (l : List (List S74)) (hl : l.length ≤ 1048576) (hm : ∀ r ∈ l, r.length ≤ maxLen ∧ ∀ x ∈ r, x.f2.size ≤ maxLen) : ∀ (d i : Nat) (left : Int), i + d = l.length → 0 ≤ left → left ≤ 1048576 →
    ∃ z, (∀ k, d + 1 + 1048578 ≤ k → laws_szValueSS.l0 k l left (i : Int) = some z) ∧ z ≤ 1048576 ∧ (0 ≤ z → ∀ j, i ≤ j → j < l.length → SmallR (l.getD j [])) := by
  intro d
  induction d with
  | zero =>
    intro i left hi h0 h1
    refine ⟨left, fun k hk => ?_, h1, fun _ j h h' => by omega⟩
    obtain ⟨k, rfl⟩ : ∃ m, k = m + 1 := ⟨k - 1, by omega⟩
    rw [laws_szValueSS.l0, if_neg (by omega)]
  | succ d ih =>
    intro i left hi h0 h1
    have hs := hm _ (mem_getD l [] i (by omega))
    obtain ⟨y, hy, hy1, hy2⟩ := szS_ok (l.getD i []) hs.1 hs.2 left h0 h1
    have hu : ∀ k, 1048578 ≤ k → laws_szValueSS.l0 (k + 1) l left (i : Int) = if y < 0 then some (-1) else laws_szValueSS.l0 k l y ((i + 1 : Nat) : Int) := by
      intro k hk
      rw [laws_szValueSS.l0, if_pos (by omega), if_pos (by omega)]
      show ((laws_szValueS.f k (l.getD i []) left).bind _) = _
      rw [hy k hk, Option.bind_some, show wrap64 ((i : Int) + 1) = ((i + 1 : Nat) : Int) by rw [w64g (by omega)]; omega]
    by_cases h : y < 0
    · refine ⟨-1, fun k hk => ?_, by omega, fun h => by omega⟩
      obtain ⟨k, rfl⟩ : ∃ m, k = m + 1 := ⟨k - 1, by omega⟩
      rw [hu k (by omega), if_pos h]
    · obtain ⟨z, hz, hz1, hz2⟩ := ih (i + 1) y (by omega) (by omega) hy1
      refine ⟨z, fun k hk => ?_, hz1, fun h' j hj hj' => ?_⟩
      · obtain ⟨k, rfl⟩ : ∃ m, k = m + 1 := ⟨k - 1, by omega⟩
        rw [hu k (by omega), if_neg h]
        exact hz k (by omega)
      · by_cases e : j = i
        · rw [e]
          exact hy2 (by omega)
        · exact hz2 h' j (by omega) hj'
theorem szSS_ok (l : List (List S74)) (hl : l.length ≤ maxLen) (hm : ∀ r ∈ l, r.length ≤ maxLen ∧ ∀ x ∈ r, x.f2.size ≤ maxLen) (left : Int) (h0 : 0 ≤ left) (h1 : left ≤ 1048576) :
    ∃ z, (∀ k, 3000000 ≤ k → laws_szValueSS.f k l left = some z) ∧ z ≤ 1048576 ∧ (0 ≤ z → l.length ≤ 1048576 ∧ ∀ r ∈ l, SmallR r) := by
  have h2 : l.length ≤ 9223372036854775807 := Nat.le_trans hl (by decide)
  have ew : wrap64 (left - (l.length : Int)) = left - l.length := w64g (by omega)
  by_cases h : left - (l.length : Int) < 0
  · refine ⟨-1, fun k _ => ?_, by omega, fun h => by omega⟩
    unfold laws_szValueSS.f
    rw [ew, if_pos h]
  · obtain ⟨z, hz, hz1, hz2⟩ := szSS_loop l (by omega) hm l.length 0 (left - l.length) (by omega) (by omega) (by omega)
    refine ⟨z, fun k hk => ?_, hz1, fun h' => ⟨by omega, (all_mem l [] SmallR).1 fun j hj => hz2 h' j (by omega) hj⟩⟩
    unfold laws_szValueSS.f
    rw [ew, if_neg h]
    exact hz k (by omega)
theorem eqValueSS_eq (l : List (List S77)) (hl : l.length ≤ 1048576) (hi : ∀ r ∈ l, r.length ≤ 1048576) : ∀ k, l.length + 1048580 ≤ k → laws_eqValueSS.f k l l = some true := by
  intro k hk
  unfold laws_eqValueSS.f
  rw [if_pos rfl]
  refine go_all (fun k i => laws_eqValueSS.l0 k l l i) l.length 1048577 1 true ?_ ?_ k (by omega)
  · intro k j hk hj
    have hr := hi _ (mem_getD l [] j hj)
    show laws_eqValueSS.l0 (k + 1) l l j = _
    rw [laws_eqValueSS.l0, if_pos (by omega), if_pos (by omega), if_pos (by omega)]
    show ((laws_eqValueS.f k (l.getD j []) (l.getD j [])).bind _) = _
    rw [eqValueS_eq _ (by omega) _ (by omega), Option.bind_some, if_pos rfl, show wrap64 ((j : Int) + 1) = ((j + 1 : Nat) : Int) by rw [w64g (by omega)]; omega]
  · intro k _
    show laws_eqValueSS.l0 (k + 1) l l l.length = _
    rw [laws_eqValueSS.l0, if_neg (by omega)]
theorem mkR_small {l : List (List S74)} (h : ∀ r ∈ l, SmallR r) : ∀ r ∈ l.map mkR, r.length ≤ 1048576 := by
  intro r hr
  obtain ⟨y, hy, rfl⟩ := List.mem_map.1 hr
  rw [List.length_map]
  exact (h y hy).1

end Go.Proofs.Ytikjhhjmdknhiaa.Pure
set_option linter.unusedVariables false
set_option linter.unusedSimpArgs false
namespace Go.Proofs.Ytikjhhjmdknhiaa.Pure
open Go.RowKit Go.Proofs.YtikjhhjmdknhiaaV.PrintWords Go.Proofs.YtikjhhjmdknhiaaV.PrintLast Go.Proofs.YtikjhhjmdknhiaaV.PrintMore

open Classical in
/-- How many elements of a list are x. -/
noncomputable def cnt {α : Type} (l : List α) (x : α) : Nat := l.countP (fun y => decide (y = x))
theorem cnt_nil {α : Type} (x : α) : cnt ([] : List α) x = 0 := by unfold cnt; exact List.countP_nil
theorem cnt_append {α : Type} (l m : List α) (x : α) : cnt (l ++ m) x = cnt l x + cnt m x := by unfold cnt; exact List.countP_append
open Classical in
theorem cnt_one {α : Type} (y x : α) : cnt [y] x = if y = x then 1 else 0 := by
  unfold cnt
  by_cases h : y = x
  · rw [if_pos h, List.countP_cons_of_pos (by simpa using h), List.countP_nil]
  · rw [if_neg h, List.countP_cons_of_neg (by simpa using h), List.countP_nil]
open Classical in
theorem cnt_cons {α : Type} (y : α) (l : List α) (x : α) : cnt (y :: l) x = (if y = x then 1 else 0) + cnt l x := by
  rw [show y :: l = [y] ++ l from rfl, cnt_append, cnt_one]
theorem cnt_le {α : Type} (l : List α) (x : α) : cnt l x ≤ l.length := by unfold cnt; exact List.countP_le_length
open Classical in
theorem cnt_pos {α : Type} {l : List α} {x : α} : 0 < cnt l x ↔ x ∈ l := by
  unfold cnt
  rw [List.countP_pos_iff]
  constructor
  · rintro ⟨y, hy, e⟩
    rw [← of_decide_eq_true e]; exact hy
  · intro h
    exact ⟨x, h, decide_eq_true rfl⟩
theorem cnt_zero {α : Type} {l : List α} {x : α} : cnt l x = 0 ↔ x ∉ l := by
  rw [← cnt_pos]
  omega
open Classical in
theorem cnt_take_succ {α : Type} (l : List α) (j : Nat) (hj : j < l.length) (x : α) : cnt (l.take (j + 1)) x = cnt (l.take j) x + if l[j] = x then 1 else 0 := by
  rw [List.take_succ_eq_append_getElem hj, cnt_append, cnt_one]
open Classical in
/-- Each element once. -/
noncomputable def onceStep {α : Type} (out : List α) (r : α) : List α := if cnt out r = 0 then out ++ [r] else out
noncomputable def once {α : Type} (l : List α) : List α := l.foldl onceStep []
theorem once_snoc {α : Type} (l : List α) (r : α) : once (l ++ [r]) = onceStep (once l) r := by unfold once; rw [List.foldl_append]; rfl
theorem onceStep_len {α : Type} (out : List α) (r : α) : (onceStep out r).length ≤ out.length + 1 := by
  unfold onceStep
  split
  · simp
  · omega
theorem once_all {α : Type} (l : List α) : (once l).Nodup ∧ (∀ x, x ∈ once l ↔ x ∈ l) ∧ (once l).length ≤ l.length := by
  have main : ∀ n, n ≤ l.length → (once (l.take n)).Nodup ∧ (∀ x, x ∈ once (l.take n) ↔ x ∈ l.take n) ∧ (once (l.take n)).length ≤ n := by
    intro n
    induction n with
    | zero =>
      intro _
      rw [List.take_zero]
      exact ⟨List.nodup_nil, fun x => Iff.rfl, Nat.le_refl _⟩
    | succ n ih =>
      intro hn
      obtain ⟨h1, h2, h3⟩ := ih (by omega)
      rw [List.take_succ_eq_append_getElem (show n < l.length by omega), once_snoc]
      unfold onceStep
      by_cases h : cnt (once (l.take n)) l[n] = 0
      · rw [if_pos h]
        refine ⟨?_, fun x => ?_, by simp; exact h3⟩
        · rw [List.nodup_append]
          refine ⟨h1, by simp, fun a ha b hb => ?_⟩
          rw [List.mem_singleton] at hb
          subst hb
          rintro rfl
          exact cnt_zero.1 h ha
        · rw [List.mem_append, List.mem_append, h2]
      · rw [if_neg h]
        refine ⟨h1, fun x => ?_, by omega⟩
        rw [List.mem_append, h2, List.mem_singleton]
        constructor
        · exact Or.inl
        · rintro (g | rfl)
          · exact g
          · rw [← h2]
            exact cnt_pos.1 (by omega)
  have := main l.length (Nat.le_refl _)
  rw [List.take_length] at this
  exact this
open Classical in
theorem sum_at {α : Type} (y : α) : ∀ (o : List α), o.Nodup → (o.map fun x => if y = x then 1 else 0).sum = if y ∈ o then 1 else 0
  | [], _ => by simp
  | a :: t, h => by
    rw [List.nodup_cons] at h
    rw [List.map_cons, List.sum_cons, sum_at y t h.2]
    by_cases e : y = a
    · subst e
      rw [if_pos rfl, if_neg h.1, if_pos List.mem_cons_self]
    · rw [if_neg e]
      by_cases g : y ∈ t
      · rw [if_pos g, if_pos (List.mem_cons_of_mem _ g)]
      · rw [if_neg g, if_neg (fun h' => (List.mem_cons.1 h').elim e g)]
open Classical in
/-- The counts of elements, each once, are the count of all of them. -/
theorem sum_cnt {α : Type} (o : List α) (ho : o.Nodup) : ∀ (l : List α), (o.map (cnt l)).sum = l.countP (fun y => decide (y ∈ o))
  | [] => by
    rw [List.countP_nil]
    have : o.map (cnt ([] : List α)) = o.map (fun _ => 0) := List.map_congr_left (fun a _ => cnt_nil a)
    rw [this]
    clear this ho
    induction o with
    | nil => rfl
    | cons a t ih => rw [List.map_cons, List.sum_cons, ih]
  | y :: t => by
    have e : o.map (cnt (y :: t)) = o.map (fun x => (if y = x then 1 else 0) + cnt t x) := List.map_congr_left (fun a _ => cnt_cons y t a)
    have s : ∀ (p : List α) (f g : α → Nat), (p.map fun x => f x + g x).sum = (p.map f).sum + (p.map g).sum := by
      intro p f g
      induction p with
      | nil => rfl
      | cons a t ih =>
        simp only [List.map_cons, List.sum_cons, ih]
        omega
    rw [e, s o (fun x => if y = x then 1 else 0) (cnt t), sum_at y o ho, sum_cnt o ho t]
    by_cases g : y ∈ o
    · rw [if_pos g, List.countP_cons_of_pos (by simpa using g)]
      omega
    · rw [if_neg g, List.countP_cons_of_neg (by simpa using g)]
      omega
open Classical in
theorem once_sum {α : Type} (l : List α) : ((once l).map (cnt l)).sum = l.length := by
  obtain ⟨h1, h2, _⟩ := once_all l
  rw [sum_cnt _ h1, List.countP_eq_length]
  intro a ha
  exact decide_eq_true ((h2 a).2 ha)
open Classical in
theorem bag_iff {α : Type} (a b : List α) : ((∀ r ∈ a, cnt a r = cnt b r) ∧ a.length = b.length) ↔ ∀ r ∈ a ++ b, cnt a r = cnt b r := by
  obtain ⟨h1, h2, _⟩ := once_all a
  have ea := sum_cnt _ h1 a
  have eb := sum_cnt _ h1 b
  rw [once_sum] at ea
  have em : (∀ r ∈ a, cnt a r = cnt b r) → ((once a).map (cnt a)).sum = ((once a).map (cnt b)).sum := fun h => by
    rw [List.map_congr_left (fun x hx => h x ((h2 x).1 hx))]
  constructor
  · rintro ⟨h, hl⟩ r hr
    rcases List.mem_append.1 hr with g | g
    · exact h r g
    · refine h r ((h2 r).1 ?_)
      have e := em h
      rw [once_sum, eb, hl] at e
      have := List.countP_eq_length.1 e.symm r g
      exact of_decide_eq_true this
  · intro h
    have ha : ∀ r ∈ a, cnt a r = cnt b r := fun r hr => h r (List.mem_append_left _ hr)
    refine ⟨ha, ?_⟩
    have e := em ha
    rw [once_sum, eb] at e
    rw [e, List.countP_eq_length]
    intro r hr
    refine decide_eq_true ((h2 r).2 ?_)
    rw [← cnt_pos, h r (List.mem_append_right _ hr), cnt_pos]
    exact hr
open Classical in
/-- A list without as many of each element as another one has of it, the first ones of them: what is gone, and what is left. -/
noncomputable def lessStep {α : Type} (b : List α) (s : List α × List α) (r : α) : List α × List α := if cnt s.1 r < cnt b r then (s.1 ++ [r], s.2) else (s.1, s.2 ++ [r])
noncomputable def lessGo {α : Type} (b l : List α) : List α × List α := l.foldl (lessStep b) ([], [])
theorem lessGo_snoc {α : Type} (b l : List α) (r : α) : lessGo b (l ++ [r]) = lessStep b (lessGo b l) r := by unfold lessGo; rw [List.foldl_append]; rfl
theorem lessGo_len {α : Type} (b l : List α) : (lessGo b l).1.length + (lessGo b l).2.length = l.length ∧ (∀ x ∈ (lessGo b l).2, x ∈ l) := by
  have main : ∀ n, n ≤ l.length → (lessGo b (l.take n)).1.length + (lessGo b (l.take n)).2.length = n ∧ ∀ x ∈ (lessGo b (l.take n)).2, x ∈ l := by
    intro n
    induction n with
    | zero =>
      intro _
      rw [List.take_zero]
      exact ⟨rfl, fun x hx => by cases hx⟩
    | succ n ih =>
      intro hn
      obtain ⟨h1, h2⟩ := ih (by omega)
      rw [List.take_succ_eq_append_getElem (show n < l.length by omega), lessGo_snoc]
      unfold lessStep
      split
      · refine ⟨?_, h2⟩
        simp only [List.length_append, List.length_singleton]
        omega
      · refine ⟨?_, fun x hx => ?_⟩
        · simp only [List.length_append, List.length_singleton]
          omega
        · rcases List.mem_append.1 hx with g | g
          · exact h2 x g
          · rw [List.mem_singleton] at g
            rw [g]
            exact List.getElem_mem _
  have := main l.length (Nat.le_refl _)
  rw [List.take_length] at this
  exact this

end Go.Proofs.Ytikjhhjmdknhiaa.Pure
set_option linter.unusedVariables false
set_option linter.unusedSimpArgs false
namespace Go.Proofs.Ytikjhhjmdknhiaa.Pure
open Go.RowKit Go.Proofs.Ytikjhhjmdknhiaa.X Go.Proofs.YtikjhhjmdknhiaaV.PrintWords Go.Proofs.YtikjhhjmdknhiaaV.PrintLast Go.Proofs.YtikjhhjmdknhiaaV.PrintMore

theorem rdV (l : List S77) (j : Nat) : rd_T77 l (j : Int) = l.getD j z77 := rfl
theorem S_ext {x y : S77} (h0 : x.f0 = y.f0) (h1 : x.f1 = y.f1) (h2 : x.f2.toList = y.f2.toList) : x = y := by
  obtain ⟨a, b, c⟩ := x
  obtain ⟨a', b', c'⟩ := y
  simp only at h0 h1 h2
  subst h0 h1
  rw [ByteArray.toList_eq, ByteArray.toList_eq] at h2
  have h3 : c.data = c'.data := Array.toList_inj.1 h2
  have h4 : c = c' := by
    obtain ⟨d⟩ := c
    obtain ⟨d'⟩ := c'
    simp only at h3
    rw [h3]
  rw [h4]
theorem ne_iff (x y : S77) : ((!(x.f0 == y.f0) || (!(x.f1 == y.f1) || (!(x.f2.toList == y.f2.toList)))) = true) ↔ x ≠ y := by
  constructor
  · rintro h rfl
    simp at h
  · intro h
    by_cases h0 : x.f0 = y.f0
    · by_cases h1 : x.f1 = y.f1
      · by_cases h2 : x.f2.toList = y.f2.toList
        · exact absurd (S_ext h0 h1 h2) h
        · simp [h2]
      · simp [h1]
    · simp [h0]
theorem list_same {α : Type} (d : α) {a b : List α} (hl : a.length = b.length) : (∀ j, j < a.length → a.getD j d = b.getD j d) ↔ a = b := by
  constructor
  · intro h
    apply List.ext_getElem hl
    intro i h1 h2
    have := h i h1
    rwa [List.getD_eq_getElem?_getD, List.getD_eq_getElem?_getD, List.getElem?_eq_getElem h1, List.getElem?_eq_getElem h2] at this
  · rintro rfl j _
    rfl
theorem spec_same (a b : List S77) (ha : a.length ≤ 1000000000) : ∃ t, (∀ k, a.length + 1 ≤ k → spec_l3Same.f k a b = some t) ∧ (t = true ↔ a = b) := by
  by_cases hl : a.length = b.length
  · obtain ⟨t, ht, ht'⟩ := scan_all (fun k i => spec_l3Same.l0 k a b i) a.length 0 (fun j => a.getD j z77 = b.getD j z77) true
      (by
        intro k j _ hj g
        show spec_l3Same.l0 (k + 1) a b j = _
        rw [spec_l3Same.l0, if_pos (by omega), if_pos (by omega), if_pos (by omega), rdV, rdV, if_neg (fun h => (ne_iff (a.getD j z77) (b.getD j z77)).1 h g), show wrap64 ((j : Int) + 1) = ((j + 1 : Nat) : Int) by rw [w64g (by omega)]; omega])
      (by
        intro k j _ hj g
        show spec_l3Same.l0 (k + 1) a b j = _
        rw [spec_l3Same.l0, if_pos (by omega), if_pos (by omega), if_pos (by omega), rdV, rdV, if_pos ((ne_iff (a.getD j z77) (b.getD j z77)).2 g)])
      (by
        intro k _
        show spec_l3Same.l0 (k + 1) a b a.length = _
        rw [spec_l3Same.l0, if_neg (by omega)])
    refine ⟨t, fun k hk => ?_, by rw [ht', list_same z77 hl]; simp⟩
    unfold spec_l3Same.f
    rw [if_pos (by omega)]
    exact ht k (by omega)
  · refine ⟨false, fun k hk => ?_, ⟨fun h => (by cases h), fun h => absurd (congrArg List.length h) hl⟩⟩
    unfold spec_l3Same.f
    rw [if_neg (by omega)]
theorem impl_same (a b : List S77) (ha : a.length ≤ 1000000000) : ∃ t, (∀ k, a.length + 1 ≤ k → impl_Value_57.f k a b = some t) ∧ (t = true ↔ a = b) := by
  by_cases hl : a.length = b.length
  · obtain ⟨t, ht, ht'⟩ := scan_all (fun k i => impl_Value_57.l0 k a b (a.length : Int) i) a.length 0 (fun j => a.getD j z77 = b.getD j z77) true
      (by
        intro k j _ hj g
        show impl_Value_57.l0 (k + 1) a b a.length j = _
        rw [impl_Value_57.l0, if_pos (by omega), if_pos (by omega), if_pos (by omega), if_pos (by omega), rdV, rdV, if_neg (fun h => (ne_iff (a.getD j z77) (b.getD j z77)).1 h g), show wrap64 ((j : Int) + 1) = ((j + 1 : Nat) : Int) by rw [w64g (by omega)]; omega])
      (by
        intro k j _ hj g
        show impl_Value_57.l0 (k + 1) a b a.length j = _
        rw [impl_Value_57.l0, if_pos (by omega), if_pos (by omega), if_pos (by omega), if_pos (by omega), rdV, rdV, if_pos ((ne_iff (a.getD j z77) (b.getD j z77)).2 g)])
      (by
        intro k _
        show impl_Value_57.l0 (k + 1) a b a.length a.length = _
        rw [impl_Value_57.l0, if_neg (by omega)])
    refine ⟨t, fun k hk => ?_, by rw [ht', list_same z77 hl]; simp⟩
    unfold impl_Value_57.f
    rw [if_pos (by omega)]
    exact ht k (by omega)
  · refine ⟨false, fun k hk => ?_, ⟨fun h => (by cases h), fun h => absurd (congrArg List.length h) hl⟩⟩
    unfold impl_Value_57.f
    rw [if_neg (by omega)]
abbrev ShortR (l : List (List S77)) : Prop := l.length ≤ 3000000 ∧ ∀ r ∈ l, r.length ≤ 1048576
theorem cnt_at (l : List (List S77)) (r : List S77) (j : Nat) (hj : j < l.length) (t : Bool) (ht : t = true ↔ l.getD j [] = r) : cnt (l.take (j + 1)) r = if t = true then cnt (l.take j) r + 1 else cnt (l.take j) r := by
  have e : l.getD j [] = l[j] := by rw [List.getD_eq_getElem?_getD, List.getElem?_eq_getElem hj]; rfl
  rw [e] at ht
  rw [cnt_take_succ l j hj]
  by_cases h : t = true
  · rw [if_pos h, if_pos (ht.1 h)]
  · rw [if_neg h, if_neg (fun g => h (ht.2 g))]
    rfl
theorem spec_many (l : List (List S77)) (r : List S77) (hl : ShortR l) : ∀ k, 5000000 ≤ k → spec_RowMany.f k l r = some (cnt l r : Int) := by
  intro k hk
  have hc := cnt_le l r
  have hl1 := hl.1
  have := go_all (fun k i => spec_RowMany.l0 k l r (cnt (l.take i.toNat) r : Int) i) l.length 1048578 1 (cnt l r : Int) ?_ ?_ k (by omega)
  · simp only [Int.toNat_zero, List.take_zero, cnt_nil] at this
    exact this
  · intro k j hk hj
    have hr := hl.2 _ (mem_getD l [] j hj)
    obtain ⟨t, ht, ht'⟩ := spec_same (l.getD j []) r (by omega)
    have e := cnt_at l r j hj t ht'
    have hcj := cnt_le (l.take (j + 1)) r
    have hcj2 := cnt_le (l.take j) r
    rw [List.length_take] at hcj hcj2
    show spec_RowMany.l0 (k + 1) l r (cnt (l.take (j : Int).toNat) r : Int) j = spec_RowMany.l0 k l r (cnt (l.take (((j + 1 : Nat) : Int)).toNat) r : Int) ((j + 1 : Nat) : Int)
    rw [Int.toNat_natCast, Int.toNat_natCast, spec_RowMany.l0, if_pos (by omega), if_pos (by omega)]
    show ((spec_l3Same.f k (l.getD j []) r).bind _) = _
    rw [ht k (by omega), Option.bind_some, show wrap64 ((j : Int) + 1) = ((j + 1 : Nat) : Int) by rw [w64g (by omega)]; omega, e]
    by_cases h : t = true
    · rw [if_pos h, if_pos h, w64g (by omega)]
      rfl
    · rw [if_neg h, if_neg h]
  · intro k hk
    show spec_RowMany.l0 (k + 1) l r (cnt (l.take (l.length : Int).toNat) r : Int) l.length = _
    rw [spec_RowMany.l0, if_neg (by omega), Int.toNat_natCast, List.take_length]
theorem impl_many (l : List (List S77)) (r : List S77) (hl : ShortR l) : ∀ k, 5000000 ≤ k → impl_RowMany.f k l r = some (cnt l r : Int) := by
  intro k hk
  have hc := cnt_le l r
  have hl1 := hl.1
  have := go_all (fun k i => impl_RowMany.l0 k r (cnt (l.take i.toNat) r : Int) l (l.length : Int) i) l.length 1048578 1 (cnt l r : Int) ?_ ?_ k (by omega)
  · simp only [Int.toNat_zero, List.take_zero, cnt_nil] at this
    exact this
  · intro k j hk hj
    have hr := hl.2 _ (mem_getD l [] j hj)
    obtain ⟨t, ht, ht'⟩ := impl_same (l.getD j []) r (by omega)
    have e := cnt_at l r j hj t ht'
    have hcj := cnt_le (l.take (j + 1)) r
    have hcj2 := cnt_le (l.take j) r
    rw [List.length_take] at hcj hcj2
    show impl_RowMany.l0 (k + 1) r (cnt (l.take (j : Int).toNat) r : Int) l l.length j = impl_RowMany.l0 k r (cnt (l.take (((j + 1 : Nat) : Int)).toNat) r : Int) l l.length ((j + 1 : Nat) : Int)
    rw [Int.toNat_natCast, Int.toNat_natCast, impl_RowMany.l0, if_pos (by omega), if_pos (by omega), if_pos (by omega)]
    show ((impl_Value_57.f k (l.getD j []) r).bind _) = _
    rw [ht k (by omega), Option.bind_some, show wrap64 ((j : Int) + 1) = ((j + 1 : Nat) : Int) by rw [w64g (by omega)]; omega, e]
    by_cases h : t = true
    · rw [if_pos h, if_pos h, w64g (by omega)]
      rfl
    · rw [if_neg h, if_neg h]
  · intro k hk
    show impl_RowMany.l0 (k + 1) r (cnt (l.take (l.length : Int).toNat) r : Int) l l.length l.length = _
    rw [impl_RowMany.l0, if_neg (by omega), Int.toNat_natCast, List.take_length]

end Go.Proofs.Ytikjhhjmdknhiaa.Pure
set_option linter.unusedVariables false
set_option linter.unusedSimpArgs false
namespace Go.Proofs.Ytikjhhjmdknhiaa.Pure
open Go.RowKit Go.Proofs.Ytikjhhjmdknhiaa.X Go.Proofs.YtikjhhjmdknhiaaV.PrintWords Go.Proofs.YtikjhhjmdknhiaaV.PrintLast Go.Proofs.YtikjhhjmdknhiaaV.PrintMore

theorem impl_bag (a b : List (List S77)) (c : List (List S77)) (hc : c.length ≤ 3000000) (ha : ShortR a) (hb : ShortR b) :
    ∀ d j, j + d = c.length → ∃ t, (∀ k, 5000010 + d ≤ k → impl_SameBag.l0 k a b c j = some t) ∧ (t = true ↔ ∀ r ∈ c.drop j, cnt a r = cnt b r) := by
  intro d
  induction d with
  | zero =>
    intro j hj
    refine ⟨true, fun k hk => ?_, ?_⟩
    · obtain ⟨k, rfl⟩ : ∃ m, k = m + 1 := ⟨k - 1, by omega⟩
      rw [impl_SameBag.l0, if_neg (by omega)]
    · rw [List.drop_of_length_le (by omega)]
      simp
  | succ d ih =>
    intro j hj
    have hjl : j < c.length := by omega
    have hx : c.getD j [] = c[j] := by rw [List.getD_eq_getElem?_getD, List.getElem?_eq_getElem hjl]; rfl
    obtain ⟨t, ht, ht'⟩ := ih (j + 1) (by omega)
    by_cases he : cnt a c[j] = cnt b c[j]
    · refine ⟨t, fun k hk => ?_, ?_⟩
      · obtain ⟨k, rfl⟩ : ∃ m, k = m + 1 := ⟨k - 1, by omega⟩
        rw [impl_SameBag.l0, if_pos hjl, hx, impl_many a _ ha _ (by omega), Option.bind_some, impl_many b _ hb _ (by omega), Option.bind_some, if_pos (by omega)]
        exact ht k (by omega)
      · rw [ht', List.drop_eq_getElem_cons hjl]
        constructor
        · intro h r hr
          rcases List.mem_cons.1 hr with rfl | hr
          · exact he
          · exact h r hr
        · intro h r hr
          exact h r (List.mem_cons_of_mem _ hr)
    · refine ⟨false, fun k hk => ?_, ?_⟩
      · obtain ⟨k, rfl⟩ : ∃ m, k = m + 1 := ⟨k - 1, by omega⟩
        rw [impl_SameBag.l0, if_pos hjl, hx, impl_many a _ ha _ (by omega), Option.bind_some, impl_many b _ hb _ (by omega), Option.bind_some, if_neg (by omega)]
      · refine ⟨fun h => (by cases h), fun h => absurd (h c[j] ?_) he⟩
        rw [List.drop_eq_getElem_cons hjl]
        exact List.mem_cons_self
theorem spec_bag (a b : List (List S77)) (ha : ShortR a) (hb : ShortR b) : ∃ t, (∀ k, 10000000 ≤ k → spec_SameBag.f k a b = some t) ∧ (t = true ↔ ((∀ r ∈ a, cnt a r = cnt b r) ∧ a.length = b.length)) := by
  have hl := ha.1
  obtain ⟨t, ht, ht'⟩ := scan_all (fun k i => spec_SameBag.l0 k a b i) a.length 5000000 (fun j => cnt a (a.getD j []) = cnt b (a.getD j [])) (decide (a.length = b.length))
    (by
      intro k j hk hj g
      show spec_SameBag.l0 (k + 1) a b j = _
      rw [spec_SameBag.l0, if_pos (by omega), if_pos (by omega)]
      show ((spec_RowMany.f k a (a.getD j [])).bind fun t1 => (spec_RowMany.f k b (a.getD j [])).bind _) = _
      rw [spec_many a _ ha _ (by omega), Option.bind_some, spec_many b _ hb _ (by omega), Option.bind_some, if_pos (by omega), show wrap64 ((j : Int) + 1) = ((j + 1 : Nat) : Int) by rw [w64g (by omega)]; omega])
    (by
      intro k j hk hj g
      show spec_SameBag.l0 (k + 1) a b j = _
      rw [spec_SameBag.l0, if_pos (by omega), if_pos (by omega)]
      show ((spec_RowMany.f k a (a.getD j [])).bind fun t1 => (spec_RowMany.f k b (a.getD j [])).bind _) = _
      rw [spec_many a _ ha _ (by omega), Option.bind_some, spec_many b _ hb _ (by omega), Option.bind_some, if_neg (by omega)])
    (by
      intro k _
      show spec_SameBag.l0 (k + 1) a b a.length = _
      rw [spec_SameBag.l0, if_neg (by omega)]
      congr 1
      rw [Bool.eq_iff_iff, beq_iff_eq, decide_eq_true_iff]
      omega)
  refine ⟨t, fun k hk => ht k (by omega), ?_⟩
  rw [ht', decide_eq_true_iff, all_mem a [] (fun r => cnt a r = cnt b r)]
theorem FnExactSameBag : laws_FnExactSameBag.Pure := by
  intro a b ha hb
  obtain ⟨z, hz, hz1, hz2⟩ := szSS_ok a ha.1 (fun r hr => ⟨(ha.2 r hr).1, fun x hx => ((ha.2 r hr).2 x hx).2.2⟩) 1048576 (by decide) (by decide)
  obtain ⟨K, hK⟩ : ∃ K, 20000000 ≤ K := ⟨_, Nat.le_refl _⟩
  refine ⟨K, ?_⟩
  unfold laws_FnExactSameBag.f
  rw [hz _ (by omega), Option.bind_some]
  by_cases h : z < 0
  · rw [if_pos h]
  obtain ⟨hl, hr⟩ := hz2 (by omega)
  obtain ⟨y, hy, _, hy2⟩ := szSS_ok b hb.1 (fun r hr => ⟨(hb.2 r hr).1, fun x hx => ((hb.2 r hr).2 x hx).2.2⟩) z (by omega) hz1
  rw [if_neg h, hy _ (by omega), Option.bind_some]
  by_cases h' : y < 0
  · rw [if_pos h']
  obtain ⟨hbl, hbr⟩ := hy2 (by omega)
  have la : (a.map mkR).length = a.length := List.length_map _
  have lb : (b.map mkR).length = b.length := List.length_map _
  have hsa : ShortR (a.map mkR) := ⟨by omega, mkR_small hr⟩
  have hsb : ShortR (b.map mkR) := ⟨by omega, mkR_small hbr⟩
  have ta : laws_toValueSS.f K a = some (a.map mkR) := toValueSS_eq a hl (fun r h => (hr r h).1) _ (by omega)
  have tb : laws_toValueSS.f K b = some (b.map mkR) := toValueSS_eq b hbl (fun r h => (hbr r h).1) _ (by omega)
  obtain ⟨t, ht, ht'⟩ := spec_bag _ _ hsa hsb
  obtain ⟨s, hs, hs'⟩ := impl_bag (a.map mkR) (b.map mkR) (a.map mkR ++ b.map mkR) (by rw [List.length_append]; omega) hsa hsb (a.map mkR ++ b.map mkR).length 0 (by omega)
  have e : s = t := by
    rw [Bool.eq_iff_iff, hs', ht', List.drop_zero]
    exact (bag_iff _ _).symm
  have hi : impl_SameBag.f K (a.map mkR) (b.map mkR) = some t := by
    unfold impl_SameBag.f
    rw [if_pos ⟨by omega, by omega⟩, hs _ (by rw [List.length_append]; omega), e]
  rw [if_neg h', ta, Option.bind_some, tb, Option.bind_some, ht _ (by omega), Option.bind_some, Option.bind_some, Option.bind_some, hi, Option.bind_some, if_neg (by simp), Option.bind_some, eqValueSS_eq _ (by omega) hsa.2 _ (by omega), Option.bind_some, if_pos rfl, Option.bind_some, eqValueSS_eq _ (by omega) hsb.2 _ (by omega), Option.bind_some, if_pos rfl]

end Go.Proofs.Ytikjhhjmdknhiaa.Pure
