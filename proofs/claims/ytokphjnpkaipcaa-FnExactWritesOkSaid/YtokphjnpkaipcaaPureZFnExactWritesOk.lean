/- The program's WritesOk returns what the reference's returns, for all arguments; no condition. -/
import Derived.Test.YtokphjnpkaipcaaVMore
import Derived.Test.YtokphjnpkaipcaaX0
import Derived.Test.YtokphjnpkaipcaaZFnExactWritesOk6
set_option linter.unusedVariables false
set_option linter.unusedSimpArgs false
namespace Go.Proofs.Ytokphjnpkaipcaa.Pure
open Go.RowKit Go.Proofs.YtokphjnpkaipcaaV.PrintWords Go.Proofs.YtokphjnpkaipcaaV.PrintLast Go.Proofs.YtokphjnpkaipcaaV.PrintMore

theorem w64g {n : Int} (h : -9223372036854775808 ≤ n ∧ n ≤ 9223372036854775807) : wrap64 n = n := by unfold wrap64; omega
theorem scan_all (F : Nat → Int → Option Bool) (n K : Nat) (G : Nat → Prop) (fin : Bool)
    (h1 : ∀ k j, K ≤ k → j < n → G j → F (k + 1) (j : Int) = F k ((j + 1 : Nat) : Int))
    (h2 : ∀ k j, K ≤ k → j < n → ¬ G j → F (k + 1) (j : Int) = some false)
    (h3 : ∀ k, K ≤ k → F (k + 1) (n : Int) = some fin) :
    ∃ b, (∀ k, n + 1 + K ≤ k → F k 0 = some b) ∧ (b = true ↔ ((∀ j, j < n → G j) ∧ fin = true)) := by
  have main : ∀ d i, i + d = n → ∃ b, (∀ k, d + 1 + K ≤ k → F k (i : Int) = some b) ∧ (b = true ↔ ((∀ j, i ≤ j → j < n → G j) ∧ fin = true)) := by
    intro d
    induction d with
    | zero =>
      intro i hi
      have hi : i = n := by omega
      subst hi
      refine ⟨fin, fun k hk => ?_, ⟨fun h => ⟨fun j h1 h2 => by omega, h⟩, fun h => h.2⟩⟩
      obtain ⟨k, rfl⟩ : ∃ m, k = m + 1 := ⟨k - 1, by omega⟩
      exact h3 k (by omega)
    | succ d ih =>
      intro i hi
      by_cases g : G i
      · obtain ⟨b, hb, hb'⟩ := ih (i + 1) (by omega)
        refine ⟨b, fun k hk => ?_, ?_⟩
        · obtain ⟨k, rfl⟩ : ∃ m, k = m + 1 := ⟨k - 1, by omega⟩
          rw [h1 k i (by omega) (by omega) g]
          exact hb k (by omega)
        · rw [hb']
          constructor
          · intro h
            refine ⟨fun j hj hj' => ?_, h.2⟩
            by_cases e : j = i
            · rw [e]; exact g
            · exact h.1 j (by omega) hj'
          · intro h
            exact ⟨fun j hj hj' => h.1 j (by omega) hj', h.2⟩
      · refine ⟨false, fun k hk => ?_, ?_⟩
        · obtain ⟨k, rfl⟩ : ∃ m, k = m + 1 := ⟨k - 1, by omega⟩
          exact h2 k i (by omega) (by omega) g
        · constructor
          · intro h
            cases h
          · intro h
            exact absurd (h.1 i (Nat.le_refl _) (by omega)) g
  obtain ⟨b, hb, hb'⟩ := main n 0 (by omega)
  refine ⟨b, hb, ?_⟩
  rw [hb']
  constructor
  · intro h; exact ⟨fun j hj => h.1 j (by omega) hj, h.2⟩
  · intro h; exact ⟨fun j _ hj => h.1 j hj, h.2⟩
theorem go_all {α : Type} (F : Nat → Int → Option α) (n K c : Nat) (r : α)
    (h1 : ∀ k j, K ≤ k → j < n → F (k + c) (j : Int) = F k ((j + 1 : Nat) : Int))
    (h3 : ∀ k, K ≤ k → F (k + c) (n : Int) = some r) : ∀ k, K + c * (n + 1) ≤ k → F k 0 = some r := by
  have main : ∀ d i, i + d = n → ∀ k, K + c * (d + 1) ≤ k → F k (i : Int) = some r := by
    intro d
    induction d with
    | zero =>
      intro i hi k hk
      have hi : i = n := by omega
      subst hi
      obtain ⟨k, rfl⟩ : ∃ m, k = m + c := ⟨k - c, by omega⟩
      exact h3 k (by omega)
    | succ d ih =>
      intro i hi k hk
      have e : c * (d + 1 + 1) = c * (d + 1) + c := Nat.mul_succ _ _
      obtain ⟨k, rfl⟩ : ∃ m, k = m + c := ⟨k - c, by omega⟩
      rw [h1 k i (by omega) (by omega)]
      exact ih (i + 1) (by omega) k (by omega)
  exact main n 0 (by omega)
theorem copy_all {β : Type} (F : Nat → List β → Int → Option (List β)) (L : List β) (x0 : List β) (hx : x0.length = L.length) (d : β)
    (h1 : ∀ k (x : List β) j, j < L.length → x.length = L.length → F (k + 1) x (j : Int) = F k (x.set j (L.getD j d)) ((j + 1 : Nat) : Int))
    (h3 : ∀ k x, x.length = L.length → F (k + 1) x (L.length : Int) = some x) : ∀ k, L.length + 1 ≤ k → F k x0 0 = some L := by
  have main : ∀ e i, i + e = L.length → ∀ k, e + 1 ≤ k → F k (L.take i ++ x0.drop i) (i : Int) = some L := by
    intro e
    induction e with
    | zero =>
      intro i hi k hk
      have hi : i = L.length := by omega
      subst hi
      obtain ⟨k, rfl⟩ : ∃ m, k = m + 1 := ⟨k - 1, by omega⟩
      rw [h3 k _ (by simp [hx]), List.take_length, List.drop_of_length_le (by omega), List.append_nil]
    | succ e ih =>
      intro i hi k hk
      obtain ⟨k, rfl⟩ : ∃ m, k = m + 1 := ⟨k - 1, by omega⟩
      have hlen : (L.take i ++ x0.drop i).length = L.length := by
        rw [List.length_append, List.length_take, List.length_drop]
        omega
      rw [h1 k _ i (by omega) hlen]
      have hi' : i < L.length := by omega
      have hi2 : i < x0.length := by omega
      have e2 : (L.take i ++ x0.drop i).set i (L.getD i d) = L.take (i + 1) ++ x0.drop (i + 1) := by
        rw [List.set_append_right _ _ (by rw [List.length_take]; omega), List.length_take, show i - min i L.length = 0 by omega, List.drop_eq_getElem_cons hi2, List.set_cons_zero]
        rw [List.take_succ_eq_append_getElem hi', List.append_assoc]
        congr 1
        rw [List.getD_eq_getElem?_getD, List.getElem?_eq_getElem hi']
        rfl
      rw [e2]
      exact ih (i + 1) (by omega) k (by omega)
  intro k hk
  have := main L.length 0 (by omega) k hk
  simpa using this
theorem chain_iff {α : Type} (d : α) (Q : α → Prop) (R : α → α → Prop) (tr : ∀ a b c, R a b → R b c → R a c) (l : List α) :
    (∀ j, j < l.length → Q (l.getD j d) ∧ (0 < j → R (l.getD (j - 1) d) (l.getD j d))) ↔ ((∀ x ∈ l, Q x) ∧ l.Pairwise R) := by
  have gd : ∀ j (h : j < l.length), l.getD j d = l[j] := by
    intro j h
    rw [List.getD_eq_getElem?_getD, List.getElem?_eq_getElem h]
    rfl
  constructor
  · intro h
    refine ⟨fun x hx => ?_, ?_⟩
    · obtain ⟨j, hj, rfl⟩ := List.getElem_of_mem hx
      rw [← gd j hj]
      exact (h j hj).1
    · rw [List.pairwise_iff_getElem]
      have main : ∀ e i (hi : i < l.length) (hj : i + e + 1 < l.length), R l[i] l[i + e + 1] := by
        intro e
        induction e with
        | zero =>
          intro i hi hj
          have := (h (i + 0 + 1) hj).2 (by omega)
          rw [gd _ (show i + 0 + 1 - 1 < l.length by omega), gd _ hj] at this
          exact this
        | succ e ih =>
          intro i hi hj
          have h1 := ih i hi (by omega)
          have := (h (i + (e + 1) + 1) hj).2 (by omega)
          rw [gd _ (show i + (e + 1) + 1 - 1 < l.length by omega), gd _ hj] at this
          exact tr _ _ _ h1 this
      intro i j hi hj hij
      obtain ⟨e, rfl⟩ : ∃ e, j = i + e + 1 := ⟨j - i - 1, by omega⟩
      exact main e i hi hj
  · intro h j hj
    refine ⟨?_, fun h0 => ?_⟩
    · rw [gd j hj]
      exact h.1 _ (List.getElem_mem hj)
    · rw [gd j hj, gd (j - 1) (by omega)]
      exact List.pairwise_iff_getElem.1 h.2 (j - 1) j (by omega) hj (by omega)
/-- What holds of a chain holds of the chain without one of its elements. -/
theorem chain_less {α : Type} {Q : α → Prop} {R : α → α → Prop} {l : List α} (h : (∀ x ∈ l, Q x) ∧ l.Pairwise R) (a b : Nat) (hab : a ≤ b) :
    (∀ x ∈ l.take a ++ l.drop b, Q x) ∧ (l.take a ++ l.drop b).Pairwise R := by
  have sub : (l.take a ++ l.drop b).Sublist l := by
    have h1 : (l.take a ++ l.drop b).Sublist (l.take a ++ l.drop a) := by
      apply List.Sublist.append (List.Sublist.refl _)
      rw [show b = a + (b - a) by omega, ← List.drop_drop]
      exact List.drop_sublist _ _
    rwa [List.take_append_drop] at h1
  exact ⟨fun x hx => h.1 x (sub.subset hx), h.2.sublist sub⟩
theorem go_all2 {α : Type} (F : Nat → Int → Option α) (n K : Nat) (r : α)
    (h1 : ∀ k j, K ≤ k → j < n → F (k + 1 + 1) (j : Int) = F k ((j + 1 : Nat) : Int))
    (h3 : ∀ k, K ≤ k → F (k + 1 + 1) (n : Int) = some r) : ∀ k, K + 2 * (n + 1) ≤ k → F k 0 = some r :=
  go_all F n K 2 r h1 h3
theorem any_ok {α : Type} (F : Nat → Int → Option α) (n K : Nat)
    (h1 : ∀ j, j < n → (∃ r, ∀ k, K ≤ k → F (k + 1) (j : Int) = some r) ∨ (∀ k, K ≤ k → F (k + 1) (j : Int) = F k ((j + 1 : Nat) : Int)))
    (h3 : ∃ r, ∀ k, K ≤ k → F (k + 1) (n : Int) = some r) : ∃ r, ∀ k, n + 1 + K ≤ k → F k 0 = some r := by
  have main : ∀ d i, i + d = n → ∃ r, ∀ k, d + 1 + K ≤ k → F k (i : Int) = some r := by
    intro d
    induction d with
    | zero =>
      intro i hi
      have hi : i = n := by omega
      subst hi
      obtain ⟨r, hr⟩ := h3
      refine ⟨r, fun k hk => ?_⟩
      obtain ⟨k, rfl⟩ : ∃ m, k = m + 1 := ⟨k - 1, by omega⟩
      exact hr k (by omega)
    | succ d ih =>
      intro i hi
      rcases h1 i (by omega) with ⟨r, hr⟩ | h
      · refine ⟨r, fun k hk => ?_⟩
        obtain ⟨k, rfl⟩ : ∃ m, k = m + 1 := ⟨k - 1, by omega⟩
        exact hr k (by omega)
      · obtain ⟨r, hr⟩ := ih (i + 1) (by omega)
        refine ⟨r, fun k hk => ?_⟩
        obtain ⟨k, rfl⟩ : ∃ m, k = m + 1 := ⟨k - 1, by omega⟩
        rw [h k (by omega)]
        exact hr k (by omega)
  exact main n 0 (by omega)

end Go.Proofs.Ytokphjnpkaipcaa.Pure
set_option linter.unusedVariables false
set_option linter.unusedSimpArgs false
namespace Go.Proofs.Ytokphjnpkaipcaa.Pure
open Go.RowKit Go.Proofs.Ytokphjnpkaipcaa.X Go.Proofs.YtokphjnpkaipcaaV.PrintWords Go.Proofs.YtokphjnpkaipcaaV.PrintLast Go.Proofs.YtokphjnpkaipcaaV.PrintMore

theorem mem_getD {α : Type} (l : List α) (d : α) (j : Nat) (hj : j < l.length) : l.getD j d ∈ l := by
  rw [List.getD_eq_getElem?_getD, List.getElem?_eq_getElem hj]
  exact List.getElem_mem hj
theorem all_mem {α : Type} (l : List α) (d : α) (P : α → Prop) : (∀ j, j < l.length → P (l.getD j d)) ↔ ∀ x ∈ l, P x := by
  constructor
  · intro h x hx
    obtain ⟨j, hj, rfl⟩ := List.getElem_of_mem hx
    have := h j hj
    rw [List.getD_eq_getElem?_getD, List.getElem?_eq_getElem hj] at this
    exact this
  · intro h j hj
    exact h _ (mem_getD l d j hj)
theorem eqValueS_eq (l : List S28) (hl : l.length ≤ 1000000000) : ∀ k, l.length + 1 ≤ k → laws_eqValueS.f k l l = some true := by
  intro k hk
  unfold laws_eqValueS.f
  rw [if_pos rfl]
  refine go_all (fun k i => laws_eqValueS.l0 k l l i) l.length 0 1 true ?_ ?_ k (by omega)
  · intro k j _ hj
    show laws_eqValueS.l0 (k + 1) l l j = _
    rw [laws_eqValueS.l0, if_pos (by omega), if_pos (by omega), if_pos (by omega), laws_eqValue.f, if_pos rfl, if_pos rfl, if_pos rfl, Option.bind_some, if_pos rfl, show wrap64 ((j : Int) + 1) = ((j + 1 : Nat) : Int) by rw [w64g (by omega)]; omega]
  · intro k _
    show laws_eqValueS.l0 (k + 1) l l l.length = _
    rw [laws_eqValueS.l0, if_neg (by omega)]
def mkV (x : S23) : S28 := ⟨x.f0, x.f1, x.f2⟩
theorem toValueS_eq (l : List S23) (hl : l.length ≤ 1000000000) : ∀ k, l.length + 1 ≤ k → laws_toValueS.f k l = some (l.map mkV) := by
  intro k hk
  unfold laws_toValueS.f
  rw [if_pos (by omega), if_pos (by omega)]
  refine copy_all (fun k x i => laws_toValueS.l0 k l x i) (l.map mkV) (List.replicate ((l.length : Int) : Int).toNat z28) (by rw [List.length_replicate, List.length_map]; omega) (mkV z23) ?_ ?_ k (by simp only [List.length_map]; omega)
  · intro k x j hj hx
    rw [List.length_map] at hj hx
    show laws_toValueS.l0 (k + 1) l x j = _
    rw [laws_toValueS.l0, if_pos (by omega), if_pos (by omega), laws_toValue.f, Option.bind_some, if_pos (by omega), show wrap64 ((j : Int) + 1) = ((j + 1 : Nat) : Int) by rw [w64g (by omega)]; omega, Int.toNat_natCast]
    have : (l.map mkV).getD j (mkV z23) = (⟨(rd_T23 l j).f0, (rd_T23 l j).f1, (rd_T23 l j).f2⟩ : S28) := by
      show _ = mkV (l.getD j z23)
      simp only [List.getD_eq_getElem?_getD, List.getElem?_map]
      cases l[j]? <;> rfl
    rw [this]
  · intro k x hx
    rw [List.length_map] at hx
    show laws_toValueS.l0 (k + 1) l x (l.map _).length = _
    rw [laws_toValueS.l0, List.length_map, if_neg (by omega)]
theorem szS_loop (l : List S23) (hl : l.length ≤ 1000000000) (hm : ∀ x ∈ l, x.f2.size ≤ maxLen) : ∀ (d i : Nat) (left : Int), i + d = l.length → 0 ≤ left → left ≤ 1048576 →
    ∃ z, (∀ k, d + 1 ≤ k → laws_szValueS.l0 k l left (i : Int) = some z) ∧ z ≤ 1048576 ∧ (0 ≤ z → ∀ j, i ≤ j → j < l.length → (l.getD j z23).f2.size ≤ 1048576) := by
  intro d
  induction d with
  | zero =>
    intro i left hi h0 h1
    refine ⟨left, fun k hk => ?_, h1, fun _ j h h' => by omega⟩
    obtain ⟨k, rfl⟩ : ∃ m, k = m + 1 := ⟨k - 1, by omega⟩
    rw [laws_szValueS.l0, if_neg (by omega)]
  | succ d ih =>
    intro i left hi h0 h1
    have hs : (l.getD i z23).f2.size ≤ 9223372036854775807 := Nat.le_trans (hm _ (mem_getD l z23 i (by omega))) (by decide)
    have ew : wrap64 (left - ((l.getD i z23).f2.size : Int)) = left - ((l.getD i z23).f2.size : Int) := w64g (by omega)
    have hu : ∀ k, laws_szValueS.l0 (k + 1) l left (i : Int) = if left - ((l.getD i z23).f2.size : Int) < 0 then some (-1) else laws_szValueS.l0 k l (left - ((l.getD i z23).f2.size : Int)) ((i + 1 : Nat) : Int) := by
      intro k
      rw [laws_szValueS.l0, if_pos (by omega), if_pos (by omega), laws_szValue.f]
      show ((if wrap64 (left - ((l.getD i z23).f2.size : Int)) < 0 then some (-1) else some (wrap64 (left - ((l.getD i z23).f2.size : Int)))).bind _) = _
      rw [ew, show wrap64 ((i : Int) + 1) = ((i + 1 : Nat) : Int) by rw [w64g (by omega)]; omega]
      by_cases h : left - ((l.getD i z23).f2.size : Int) < 0
      · rw [if_pos h, if_pos h, Option.bind_some, if_pos (by decide)]
      · rw [if_neg h, if_neg h, Option.bind_some, if_neg h]
    by_cases h : left - ((l.getD i z23).f2.size : Int) < 0
    · refine ⟨-1, fun k hk => ?_, by omega, fun h => by omega⟩
      obtain ⟨k, rfl⟩ : ∃ m, k = m + 1 := ⟨k - 1, by omega⟩
      rw [hu, if_pos h]
    · obtain ⟨z, hz, hz1, hz2⟩ := ih (i + 1) (left - ((l.getD i z23).f2.size : Int)) (by omega) (by omega) (by omega)
      refine ⟨z, fun k hk => ?_, hz1, fun h' j hj hj' => ?_⟩
      · obtain ⟨k, rfl⟩ : ∃ m, k = m + 1 := ⟨k - 1, by omega⟩
        rw [hu, if_neg h]
        exact hz k (by omega)
      · by_cases e : j = i
        · rw [e]
          omega
        · exact hz2 h' j (by omega) hj'
theorem szS_ok (l : List S23) (hl : l.length ≤ maxLen) (hm : ∀ x ∈ l, x.f2.size ≤ maxLen) (left : Int) (h0 : 0 ≤ left) (h1 : left ≤ 1048576) :
    ∃ z, (∀ k, 1048578 ≤ k → laws_szValueS.f k l left = some z) ∧ z ≤ 1048576 ∧ (0 ≤ z → l.length ≤ 1048576 ∧ ∀ x ∈ l, x.f2.size ≤ 1048576) := by
  have h2 : l.length ≤ 9223372036854775807 := Nat.le_trans hl (by decide)
  have ew : wrap64 (left - (l.length : Int)) = left - l.length := w64g (by omega)
  by_cases h : left - (l.length : Int) < 0
  · refine ⟨-1, fun k _ => ?_, by omega, fun h => by omega⟩
    unfold laws_szValueS.f
    rw [ew, if_pos h]
  · obtain ⟨z, hz, hz1, hz2⟩ := szS_loop l (by omega) hm l.length 0 (left - l.length) (by omega) (by omega) (by omega)
    refine ⟨z, fun k hk => ?_, hz1, fun h' => ⟨by omega, (all_mem l z23 (fun x => x.f2.size ≤ 1048576)).1 fun j hj => hz2 h' j (by omega) hj⟩⟩
    unfold laws_szValueS.f
    rw [ew, if_neg h]
    exact hz k (by omega)
theorem mkV_small {l : List S23} (h : ∀ x ∈ l, x.f2.size ≤ 1048576) : ∀ x ∈ l.map mkV, x.f2.size ≤ 1048576 := by
  intro x hx
  obtain ⟨y, hy, rfl⟩ := List.mem_map.1 hx
  exact h y hy
theorem getD_map {α β : Type} (f : α → β) (l : List α) (d : α) (d' : β) (j : Nat) (hj : j < l.length) : (l.map f).getD j d' = f (l.getD j d) := by
  simp only [List.getD_eq_getElem?_getD, List.getElem?_map, List.getElem?_eq_getElem hj]
  rfl
abbrev SmallR (r : List S23) : Prop := r.length ≤ 1048576 ∧ ∀ x ∈ r, x.f2.size ≤ 1048576

end Go.Proofs.Ytokphjnpkaipcaa.Pure
set_option linter.unusedVariables false
set_option linter.unusedSimpArgs false
namespace Go.Proofs.Ytokphjnpkaipcaa.Pure
open Go.RowKit Go.Proofs.Ytokphjnpkaipcaa.X Go.Proofs.YtokphjnpkaipcaaV.PrintWords Go.Proofs.YtokphjnpkaipcaaV.PrintLast Go.Proofs.YtokphjnpkaipcaaV.PrintMore

theorem l1In_eq (a lo hi : Int) : spec_l1In.f a lo hi = some (decide (lo ≤ a ∧ a ≤ hi)) := by
  unfold spec_l1In.f
  by_cases h : a ≥ lo
  · rw [if_pos h]
    by_cases g : a ≤ hi
    · rw [decide_eq_true g, decide_eq_true ⟨h, g⟩]
    · rw [decide_eq_false g, decide_eq_false (fun h' => g h'.2)]
  · rw [if_neg h, decide_eq_false (fun h' => h h'.1)]

end Go.Proofs.Ytokphjnpkaipcaa.Pure
set_option linter.unusedVariables false
set_option linter.unusedSimpArgs false
namespace Go.Proofs.Ytokphjnpkaipcaa.Pure
open Go.RowKit Go.Proofs.Ytokphjnpkaipcaa.X Go.Proofs.YtokphjnpkaipcaaV.PrintWords Go.Proofs.YtokphjnpkaipcaaV.PrintLast Go.Proofs.YtokphjnpkaipcaaV.PrintMore

theorem between_eq (a lo hi : Int) : impl_between.f a lo hi = some (decide (lo ≤ a ∧ a ≤ hi)) := by
  unfold impl_between.f
  by_cases h : a ≥ lo
  · rw [if_pos h]
    by_cases g : a ≤ hi
    · rw [decide_eq_true g, decide_eq_true ⟨h, g⟩]
    · rw [decide_eq_false g, decide_eq_false (fun h' => g h'.2)]
  · rw [if_neg h, decide_eq_false (fun h' => h h'.1)]

end Go.Proofs.Ytokphjnpkaipcaa.Pure
set_option linter.unusedVariables false
set_option linter.unusedSimpArgs false
namespace Go.Proofs.Ytokphjnpkaipcaa.Pure
open Go.RowKit Go.Proofs.Ytokphjnpkaipcaa.X Go.Proofs.YtokphjnpkaipcaaV.PrintWords Go.Proofs.YtokphjnpkaipcaaV.PrintLast Go.Proofs.YtokphjnpkaipcaaV.PrintMore

theorem toList_data (s : ByteArray) : s.toList = s.data.toList := ByteArray.toList_eq s
theorem data_size (s : ByteArray) : s.data.toList.length = s.size := by rw [Array.length_toList]; rfl
theorem nil_iff (s : ByteArray) : s.toList = ([] : List UInt8) ↔ s.size = 0 := by
  rw [toList_data, ← List.length_eq_zero_iff, data_size]
theorem nil_beq (s : ByteArray) : (s.toList == ([] : List UInt8)) = decide (s.size = 0) := by
  rw [Bool.eq_iff_iff, beq_iff_eq, nil_iff, decide_eq_true_iff]
/-- Small letters alone. -/
def Low (s : ByteArray) : Bool := s.data.toList.all fun c => decide (97 ≤ c.toNat ∧ c.toNat ≤ 122)
/-- A value: its kind, its number, its text. -/
def VOk (t n : Int) (s : ByteArray) : Bool :=
  decide (t = 0 ∧ n = 0 ∧ s.size = 0) || decide (t = 1 ∧ s.size = 0 ∧ -9999 ≤ n ∧ n ≤ 9999) || (decide (t = 2 ∧ n = 0 ∧ s.size ≤ 6) && Low s) || decide (t = 3 ∧ s.size = 0 ∧ 0 ≤ n ∧ n ≤ 1)
theorem letters_eq (s : ByteArray) (h : s.size ≤ 6) : impl_letters.f s = some (Low s) := by
  unfold impl_letters.f
  rw [if_pos (by omega)]
  rfl
theorem vok0 {t n : Int} {s : ByteArray} (ht : t = 0) : VOk t n s = decide (n = 0 ∧ s.size = 0) := by subst ht; simp [VOk]
theorem vok1 {t n : Int} {s : ByteArray} (ht : t = 1) : VOk t n s = decide (s.size = 0 ∧ -9999 ≤ n ∧ n ≤ 9999) := by subst ht; simp [VOk]
theorem vok2 {t n : Int} {s : ByteArray} (ht : t = 2) : VOk t n s = (decide (n = 0 ∧ s.size ≤ 6) && Low s) := by subst ht; simp [VOk]
theorem vok3 {t n : Int} {s : ByteArray} (ht : t = 3) : VOk t n s = decide (s.size = 0 ∧ 0 ≤ n ∧ n ≤ 1) := by subst ht; simp [VOk]
theorem vokx {t n : Int} {s : ByteArray} (h0 : ¬ t = 0) (h1 : ¬ t = 1) (h2 : ¬ t = 2) (h3 : ¬ t = 3) : VOk t n s = false := by simp [VOk, h0, h1, h2, h3]
theorem impl_ok (t n : Int) (s : ByteArray) : impl_Value_ok.f t n s = some (VOk t n s) := by
  unfold impl_Value_ok.f
  by_cases h0 : t = 0
  · rw [if_pos h0, vok0 h0, nil_beq]
    subst h0
    congr 1
    rw [Bool.eq_iff_iff]
    simp
  rw [if_neg h0]
  by_cases h1 : t = 1
  · rw [if_pos h1, vok1 h1]
    by_cases hs : s.size = 0
    · rw [if_pos ((nil_iff s).2 hs), between_eq]
      simp [hs]
    · rw [if_neg (fun h => hs ((nil_iff s).1 h))]
      simp [hs]
  rw [if_neg h1]
  by_cases h2 : t = 2
  · rw [if_pos h2, vok2 h2]
    by_cases hn : n = 0
    · rw [if_pos hn]
      by_cases hs : (s.size : Int) ≤ 6
      · rw [if_pos hs, letters_eq s (by omega)]
        have : s.size ≤ 6 := by omega
        simp [hn, this]
      · rw [if_neg hs]
        have : ¬ s.size ≤ 6 := by omega
        simp [this]
    · rw [if_neg hn]
      simp [hn]
  rw [if_neg h2]
  by_cases h3 : t = 3
  · rw [if_pos h3, vok3 h3]
    by_cases hs : s.size = 0
    · rw [if_pos ((nil_iff s).2 hs), between_eq]
      simp [hs]
    · rw [if_neg (fun h => hs ((nil_iff s).1 h))]
      simp [hs]
  · rw [if_neg h3, vokx h0 h1 h2 h3]
/-- What is known of a value. -/
theorem vok_cases {t n : Int} {s : ByteArray} (h : VOk t n s = true) :
    (t = 0 ∧ n = 0 ∧ s.size = 0) ∨ (t = 1 ∧ s.size = 0 ∧ -9999 ≤ n ∧ n ≤ 9999) ∨ (t = 2 ∧ n = 0 ∧ s.size ≤ 6 ∧ Low s = true) ∨ (t = 3 ∧ s.size = 0 ∧ 0 ≤ n ∧ n ≤ 1) := by
  simp only [VOk, Bool.or_eq_true, Bool.and_eq_true, decide_eq_true_eq] at h
  rcases h with ((h | h) | h) | h
  · exact .inl h
  · exact .inr (.inl h)
  · exact .inr (.inr (.inl ⟨h.1.1, h.1.2.1, h.1.2.2, h.2⟩))
  · exact .inr (.inr (.inr h))
theorem vok_size {t n : Int} {s : ByteArray} (h : VOk t n s = true) : s.size ≤ 6 := by
  rcases vok_cases h with h | h | h | h <;> omega
theorem vok_kind {t n : Int} {s : ByteArray} (h : VOk t n s = true) : 0 ≤ t ∧ t ≤ 3 := by
  rcases vok_cases h with h | h | h | h <;> omega
theorem vok_num {t n : Int} {s : ByteArray} (h : VOk t n s = true) : -9999 ≤ n ∧ n ≤ 9999 := by
  rcases vok_cases h with h | h | h | h <;> omega

end Go.Proofs.Ytokphjnpkaipcaa.Pure
set_option linter.unusedVariables false
set_option linter.unusedSimpArgs false
namespace Go.Proofs.Ytokphjnpkaipcaa.Pure
open Go.RowKit Go.Proofs.Ytokphjnpkaipcaa.X Go.Proofs.YtokphjnpkaipcaaV.PrintWords Go.Proofs.YtokphjnpkaipcaaV.PrintLast Go.Proofs.YtokphjnpkaipcaaV.PrintMore

theorem bt_nat (s : ByteArray) (i : Nat) (h : i < s.size) : bt s (i : Int) = ((s.data.toList.getD i 0).toNat : Int) := by
  have h1 : (i : Int).toNat < s.size := by omega
  rw [← bt_at s i h1]
  have h2 : i < s.data.toList.length := by rw [data_size]; exact h
  rw [List.getD_eq_getElem?_getD, List.getElem?_eq_getElem h2]
  rfl
theorem text_from (s : ByteArray) (hm : s.size ≤ 9223372036854775807) (d : Nat) : ∀ (k i : Nat), i + d = s.size → d < k →
    spec_l1Text.l0 k s (i : Int) = some (((s.data.toList.drop i).all fun c => decide (97 ≤ c.toNat ∧ c.toNat ≤ 122)) && decide (s.size ≤ 6)) := by
  induction d with
  | zero =>
    intro k i hi hk
    obtain ⟨k, rfl⟩ : ∃ m, k = m + 1 := ⟨k - 1, by omega⟩
    simp only [spec_l1Text.l0]
    rw [if_neg (by omega), List.drop_of_length_le (by rw [data_size]; omega)]
    congr 1
    rw [Bool.eq_iff_iff]
    simp
    omega
  | succ d ih =>
    intro k i hi hk
    obtain ⟨k, rfl⟩ : ∃ m, k = m + 1 := ⟨k - 1, by omega⟩
    have hl : i < s.data.toList.length := by rw [data_size]; omega
    simp only [spec_l1Text.l0]
    rw [if_pos (by omega), if_pos (by omega), bt_nat s i (by omega), List.drop_eq_getElem_cons hl, List.all_cons]
    have e : s.data.toList.getD i 0 = s.data.toList[i] := by rw [List.getD_eq_getElem?_getD, List.getElem?_eq_getElem hl]; rfl
    rw [e]
    generalize s.data.toList[i] = c
    by_cases h1 : (c.toNat : Int) < 97
    · rw [if_pos h1, decide_eq_false (by omega)]
      rfl
    · rw [if_neg h1]
      by_cases h2 : (c.toNat : Int) > 122
      · rw [if_pos h2, decide_eq_false (by omega)]
        rfl
      · rw [if_neg h2, decide_eq_true (by omega), Bool.true_and]
        have ew : wrap64 ((i : Int) + 1) = ((i + 1 : Nat) : Int) := by unfold wrap64; omega
        rw [ew]
        exact ih k (i + 1) (by omega) (by omega)
theorem text_eq (s : ByteArray) (hm : s.size ≤ maxLen) (k : Nat) (hk : s.size < k) : spec_l1Text.f k s = some (Low s && decide (s.size ≤ 6)) := by
  unfold spec_l1Text.f
  have := text_from s (by simpa [maxLen] using hm) s.size k 0 (by omega) hk
  rw [List.drop_zero] at this
  exact this
theorem spec_ok (t n : Int) (s : ByteArray) (hm : s.size ≤ maxLen) (k : Nat) (hk : s.size < k) : spec_ValueOk.f k t n s = some (VOk t n s) := by
  unfold spec_ValueOk.f
  by_cases h0 : t = 0
  · rw [if_pos h0, vok0 h0, nil_beq]
    by_cases hn : n = 0 <;> simp [hn]
  rw [if_neg h0]
  by_cases h1 : t = 1
  · rw [if_pos h1, vok1 h1, l1In_eq, nil_beq]
    by_cases hn : -9999 ≤ n ∧ n ≤ 9999 <;> simp [hn]
  rw [if_neg h1]
  by_cases h2 : t = 2
  · rw [if_pos h2, vok2 h2, text_eq s hm k hk]
    by_cases hn : n = 0 <;> simp [hn, Bool.and_comm]
  rw [if_neg h2]
  by_cases h3 : t = 3
  · rw [if_pos h3, vok3 h3, l1In_eq, nil_beq]
    by_cases hn : 0 ≤ n ∧ n ≤ 1 <;> simp [hn]
  · rw [if_neg h3, vokx h0 h1 h2 h3]

end Go.Proofs.Ytokphjnpkaipcaa.Pure
set_option linter.unusedVariables false
set_option linter.unusedSimpArgs false
namespace Go.Proofs.Ytokphjnpkaipcaa.Pure
open Go.RowKit Go.Proofs.Ytokphjnpkaipcaa.X Go.Proofs.YtokphjnpkaipcaaV.PrintWords Go.Proofs.YtokphjnpkaipcaaV.PrintLast Go.Proofs.YtokphjnpkaipcaaV.PrintMore

theorem rdV_nat (l : List S28) (j : Nat) : rd_T28 l (j : Int) = l.getD j z28 := rfl
abbrev OkV (x : S28) : Prop := VOk x.f0 x.f1 x.f2 = true
theorem small_max {n : Nat} (h : n ≤ 1048576) : n ≤ maxLen := Nat.le_trans h (by decide)
theorem spec_row (l : List S28) (hl : l.length ≤ 1000000000) (hz : ∀ x ∈ l, x.f2.size ≤ 1048576) : ∃ b, (∀ k, l.length + 1048580 ≤ k → spec_RowOk.f k l = some b) ∧ (b = true ↔ ((∀ x ∈ l, OkV x) ∧ l.length ≤ 4)) := by
  obtain ⟨b, hb, hb'⟩ := scan_all (fun k i => spec_RowOk.l0 k l i) l.length 1048577 (fun j => OkV (l.getD j z28)) (decide ((l.length : Int) ≤ 4))
    (by
      intro k j hk hj g
      have hs := hz _ (mem_getD l z28 j hj)
      show spec_RowOk.l0 (k + 1) l j = _
      rw [spec_RowOk.l0, if_pos (by omega), if_pos (by omega), rdV_nat, spec_ok _ _ _ (small_max hs) _ (by omega), Option.bind_some, if_pos g, show wrap64 ((j : Int) + 1) = ((j + 1 : Nat) : Int) by rw [w64g (by omega)]; omega])
    (by
      intro k j hk hj g
      have hs := hz _ (mem_getD l z28 j hj)
      show spec_RowOk.l0 (k + 1) l j = _
      rw [spec_RowOk.l0, if_pos (by omega), if_pos (by omega), rdV_nat, spec_ok _ _ _ (small_max hs) _ (by omega), Option.bind_some, if_neg g])
    (by
      intro k _
      show spec_RowOk.l0 (k + 1) l l.length = _
      rw [spec_RowOk.l0, if_neg (by omega)])
  refine ⟨b, fun k hk => hb k (by omega), ?_⟩
  rw [hb', decide_eq_true_iff, all_mem l z28 OkV]
  exact ⟨fun h => ⟨h.1, by omega⟩, fun h => ⟨h.1, by omega⟩⟩
theorem impl_row (l : List S28) : ∃ b, impl_RowOk.f l = some b ∧ (b = true ↔ ((∀ x ∈ l, OkV x) ∧ l.length ≤ 4)) := by
  have hq : ∀ c, impl_RowOk.q c = some (VOk c.f0 c.f1 c.f2) := fun c => impl_ok _ _ _
  have ho : ∀ c, impl_RowOk.ok c = VOk c.f0 c.f1 c.f2 := fun c => by unfold impl_RowOk.ok; rw [hq]; rfl
  refine ⟨decide (l.length ≤ 4) && l.all impl_RowOk.ok, ?_, ?_⟩
  · unfold impl_RowOk.f
    rw [if_pos (List.all_eq_true.2 fun c _ => by rw [hq]; rfl)]
  · rw [Bool.and_eq_true, decide_eq_true_iff, List.all_eq_true]
    constructor
    · intro h
      exact ⟨fun x hx => by have := h.2 x hx; rwa [ho] at this, h.1⟩
    · intro h
      exact ⟨h.2, fun x hx => by rw [ho]; exact h.1 x hx⟩

end Go.Proofs.Ytokphjnpkaipcaa.Pure
set_option linter.unusedVariables false
set_option linter.unusedSimpArgs false
namespace Go.Proofs.Ytokphjnpkaipcaa.Pure
open Go.RowKit Go.Proofs.Ytokphjnpkaipcaa.X Go.Proofs.YtokphjnpkaipcaaV.PrintWords Go.Proofs.YtokphjnpkaipcaaV.PrintLast Go.Proofs.YtokphjnpkaipcaaV.PrintMore

theorem key_eq (n : Int) : impl_keyOk.f n = some (decide (0 ≤ n ∧ n ≤ 4)) := by
  unfold impl_keyOk.f
  rw [between_eq, Option.bind_some]
def RowOkP (r : List S28) : Prop := (∀ x ∈ r, OkV x) ∧ r.length ≤ 4
/-- What is asked of the write j. -/
def WJ (l : List S124) (j : Nat) : Prop := (0 ≤ (l.getD j z124).f0 ∧ (l.getD j z124).f0 ≤ 4) ∧ RowOkP (l.getD j z124).f1 ∧ ((l.getD j z124).f2 = true → (l.getD j z124).f1.length = 0) ∧ (0 < j → (l.getD (j - 1) z124).f0 < (l.getD j z124).f0)
theorem rdW (l : List S124) (j : Nat) : rd_T124 l (j : Int) = l.getD j z124 := rfl
abbrev SmallW (l : List S124) : Prop := l.length ≤ 1048576 ∧ ∀ w ∈ l, w.f1.length ≤ 1048576 ∧ ∀ x ∈ w.f1, x.f2.size ≤ 1048576
theorem spec_wstep (l : List S124) (hl : SmallW l) (k j : Nat) (hk : 3000000 ≤ k) (hj : j < l.length) (R : Option Bool) (hR : spec_WritesOk.l0 k l ((j + 1 : Nat) : Int) = R) :
    (WJ l j → spec_WritesOk.l0 (k + 1) l (j : Int) = R) ∧ (¬ WJ l j → spec_WritesOk.l0 (k + 1) l (j : Int) = some false) := by
  have hw := hl.2 _ (mem_getD l z124 j hj)
  have hll := hl.1
  obtain ⟨b, hb, hb'⟩ := spec_row (l.getD j z124).f1 (by omega) hw.2
  have e1 : wrap64 ((j : Int) + 1) = ((j + 1 : Nat) : Int) := by rw [w64g (by omega)]; omega
  have hu : spec_WritesOk.l0 (k + 1) l (j : Int) = if (0 ≤ (l.getD j z124).f0 ∧ (l.getD j z124).f0 ≤ 4) then (if b = true then (if (l.getD j z124).f2 = true ∧ (l.getD j z124).f1.length > 0 then some false else (if 0 < j ∧ (l.getD (j - 1) z124).f0 ≥ (l.getD j z124).f0 then some false else R)) else some false) else some false := by
    rw [spec_WritesOk.l0, if_pos (by omega), if_pos (by omega), rdW, l1In_eq, Option.bind_some]
    by_cases h1 : 0 ≤ (l.getD j z124).f0 ∧ (l.getD j z124).f0 ≤ 4
    case neg => rw [if_neg (fun h => h1 (of_decide_eq_true h)), if_neg h1]
    rw [if_pos (decide_eq_true h1), if_pos h1, hb _ (by omega), Option.bind_some]
    by_cases h2 : b = true
    case neg => rw [if_neg h2, if_neg h2]
    rw [if_pos h2, if_pos h2, e1, hR]
    have inner : (if (j : Int) > 0 then (if 0 ≤ (wrap64 ((j : Int) - 1)) then (if (wrap64 ((j : Int) - 1)) < (l.length : Int) then (if ((rd_T124 l (wrap64 ((j : Int) - 1))).f0) ≥ ((l.getD j z124).f0) then (some false) else R) else (none)) else (none)) else R) = (if 0 < j ∧ (l.getD (j - 1) z124).f0 ≥ (l.getD j z124).f0 then some false else R) := by
      by_cases h0 : (j : Int) > 0
      · have e2 : wrap64 ((j : Int) - 1) = ((j - 1 : Nat) : Int) := by rw [w64g (by omega)]; omega
        rw [if_pos h0, e2, if_pos (by omega), if_pos (by omega), rdW]
        by_cases h3 : (l.getD (j - 1) z124).f0 ≥ (l.getD j z124).f0
        · rw [if_pos h3, if_pos ⟨by omega, h3⟩]
        · rw [if_neg h3, if_neg (fun h => h3 h.2)]
      · rw [if_neg h0, if_neg (fun h => h0 (by omega))]
    rw [inner]
    by_cases h4 : (l.getD j z124).f2 = true
    · rw [if_pos h4]
      by_cases h5 : ((l.getD j z124).f1.length : Int) > 0
      · rw [if_pos h5, if_pos (show (l.getD j z124).f2 = true ∧ (l.getD j z124).f1.length > 0 from ⟨h4, by omega⟩)]
      · rw [if_neg h5, if_neg (show ¬ ((l.getD j z124).f2 = true ∧ (l.getD j z124).f1.length > 0) from fun h => h5 (by have := h.2; omega))]
    · rw [if_neg h4, if_neg (show ¬ ((l.getD j z124).f2 = true ∧ (l.getD j z124).f1.length > 0) from fun h => h4 h.1)]
  rw [hu]
  constructor
  · rintro ⟨h1, h2, h3, h4⟩
    rw [if_pos h1, if_pos (hb'.2 h2), if_neg (show ¬ ((l.getD j z124).f2 = true ∧ (l.getD j z124).f1.length > 0) from fun h => by have := h3 h.1; have := h.2; omega), if_neg (show ¬ (0 < j ∧ (l.getD (j - 1) z124).f0 ≥ (l.getD j z124).f0) from fun h => by have := h4 h.1; have := h.2; omega)]
  · intro h
    by_cases h1 : 0 ≤ (l.getD j z124).f0 ∧ (l.getD j z124).f0 ≤ 4
    case neg => rw [if_neg h1]
    rw [if_pos h1]
    by_cases h2 : b = true
    case neg => rw [if_neg h2]
    rw [if_pos h2]
    by_cases h3 : (l.getD j z124).f2 = true ∧ (l.getD j z124).f1.length > 0
    case pos => rw [if_pos h3]
    rw [if_neg h3]
    by_cases h4 : 0 < j ∧ (l.getD (j - 1) z124).f0 ≥ (l.getD j z124).f0
    case pos => rw [if_pos h4]
    refine absurd ⟨h1, hb'.1 h2, fun g => ?_, fun g => ?_⟩ h
    · apply Classical.byContradiction
      intro g2
      exact h3 ⟨g, by omega⟩
    · apply Classical.byContradiction
      intro g2
      exact h4 ⟨g, by omega⟩
theorem impl_wstep (l : List S124) (hl : SmallW l) (k j : Nat) (hj : j < l.length) (R : Option Bool) (hR : impl_WritesOk.l0 k l l (l.length : Int) ((j + 1 : Nat) : Int) = R) :
    (WJ l j → impl_WritesOk.l0 (k + 1) l l (l.length : Int) (j : Int) = R) ∧ (¬ WJ l j → impl_WritesOk.l0 (k + 1) l l (l.length : Int) (j : Int) = some false) := by
  have hll := hl.1
  obtain ⟨b, hb, hb'⟩ := impl_row (l.getD j z124).f1
  have e1 : wrap64 ((j : Int) + 1) = ((j + 1 : Nat) : Int) := by rw [w64g (by omega)]; omega
  have hu : impl_WritesOk.l0 (k + 1) l l (l.length : Int) (j : Int) = if (0 ≤ (l.getD j z124).f0 ∧ (l.getD j z124).f0 ≤ 4) then (if b = true then (if (l.getD j z124).f2 = true ∧ (l.getD j z124).f1.length > 0 then some false else (if 0 < j ∧ (l.getD (j - 1) z124).f0 ≥ (l.getD j z124).f0 then some false else R)) else some false) else some false := by
    rw [impl_WritesOk.l0, if_pos (by omega), if_pos (by omega), if_pos (by omega), rdW, key_eq, Option.bind_some]
    by_cases h1 : 0 ≤ (l.getD j z124).f0 ∧ (l.getD j z124).f0 ≤ 4
    case neg => rw [if_neg (fun h => h1 (of_decide_eq_true h)), if_neg h1]
    rw [if_pos (decide_eq_true h1), if_pos h1, hb, Option.bind_some]
    by_cases h2 : b = true
    case neg => rw [if_neg h2, if_neg h2]
    rw [if_pos h2, if_pos h2, e1, hR]
    have inner : (if (j : Int) > 0 then (if 0 ≤ (wrap64 ((j : Int) - 1)) then (if (wrap64 ((j : Int) - 1)) < (l.length : Int) then (if ((rd_T124 l (wrap64 ((j : Int) - 1))).f0) ≥ ((l.getD j z124).f0) then (some false) else R) else (none)) else (none)) else R) = (if 0 < j ∧ (l.getD (j - 1) z124).f0 ≥ (l.getD j z124).f0 then some false else R) := by
      by_cases h0 : (j : Int) > 0
      · have e2 : wrap64 ((j : Int) - 1) = ((j - 1 : Nat) : Int) := by rw [w64g (by omega)]; omega
        rw [if_pos h0, e2, if_pos (by omega), if_pos (by omega), rdW]
        by_cases h3 : (l.getD (j - 1) z124).f0 ≥ (l.getD j z124).f0
        · rw [if_pos h3, if_pos ⟨by omega, h3⟩]
        · rw [if_neg h3, if_neg (fun h => h3 h.2)]
      · rw [if_neg h0, if_neg (fun h => h0 (by omega))]
    rw [inner]
    by_cases h4 : (l.getD j z124).f2 = true
    · rw [if_pos h4]
      by_cases h5 : ((l.getD j z124).f1.length : Int) > 0
      · rw [if_pos h5, if_pos (show (l.getD j z124).f2 = true ∧ (l.getD j z124).f1.length > 0 from ⟨h4, by omega⟩)]
      · rw [if_neg h5, if_neg (show ¬ ((l.getD j z124).f2 = true ∧ (l.getD j z124).f1.length > 0) from fun h => h5 (by have := h.2; omega))]
    · rw [if_neg h4, if_neg (show ¬ ((l.getD j z124).f2 = true ∧ (l.getD j z124).f1.length > 0) from fun h => h4 h.1)]
  rw [hu]
  constructor
  · rintro ⟨h1, h2, h3, h4⟩
    rw [if_pos h1, if_pos (hb'.2 h2), if_neg (show ¬ ((l.getD j z124).f2 = true ∧ (l.getD j z124).f1.length > 0) from fun h => by have := h3 h.1; have := h.2; omega), if_neg (show ¬ (0 < j ∧ (l.getD (j - 1) z124).f0 ≥ (l.getD j z124).f0) from fun h => by have := h4 h.1; have := h.2; omega)]
  · intro h
    by_cases h1 : 0 ≤ (l.getD j z124).f0 ∧ (l.getD j z124).f0 ≤ 4
    case neg => rw [if_neg h1]
    rw [if_pos h1]
    by_cases h2 : b = true
    case neg => rw [if_neg h2]
    rw [if_pos h2]
    by_cases h3 : (l.getD j z124).f2 = true ∧ (l.getD j z124).f1.length > 0
    case pos => rw [if_pos h3]
    rw [if_neg h3]
    by_cases h4 : 0 < j ∧ (l.getD (j - 1) z124).f0 ≥ (l.getD j z124).f0
    case pos => rw [if_pos h4]
    refine absurd ⟨h1, hb'.1 h2, fun g => ?_, fun g => ?_⟩ h
    · apply Classical.byContradiction
      intro g2
      exact h3 ⟨g, by omega⟩
    · apply Classical.byContradiction
      intro g2
      exact h4 ⟨g, by omega⟩
theorem rising_len (l : List S124) (h : ∀ j, j < l.length → WJ l j) : l.length ≤ 5 := by
  have main : ∀ j, j < l.length → (j : Int) ≤ (l.getD j z124).f0 := by
    intro j
    induction j with
    | zero => intro hj; exact (h 0 hj).1.1
    | succ j ih =>
      intro hj
      have h1 := ih (by omega)
      have h2 := (h (j + 1) hj).2.2.2 (by omega)
      rw [show j + 1 - 1 = j by omega] at h2
      omega
  apply Classical.byContradiction
  intro hn
  have h1 := main 5 (by omega)
  have h2 := (h 5 (by omega)).1.2
  omega
theorem writes_both (l : List S124) (hl : SmallW l) : ∃ r, ∀ k, 5000000 ≤ k → impl_WritesOk.f k l = some r ∧ spec_WritesOk.f k l = some r := by
  have hll := hl.1
  obtain ⟨b, hb, hb'⟩ := scan_all (fun k i => spec_WritesOk.l0 k l i) l.length 3000000 (WJ l) true
    (fun k j hk hj g => (spec_wstep l hl k j hk hj _ rfl).1 g) (fun k j hk hj g => (spec_wstep l hl k j hk hj _ rfl).2 g)
    (by
      intro k _
      show spec_WritesOk.l0 (k + 1) l l.length = _
      rw [spec_WritesOk.l0, if_neg (by omega)])
  obtain ⟨c, hc, hc'⟩ := scan_all (fun k i => impl_WritesOk.l0 k l l (l.length : Int) i) l.length 0 (WJ l) (decide (l.length ≤ 5))
    (fun k j _ hj g => (impl_wstep l hl k j hj _ rfl).1 g) (fun k j _ hj g => (impl_wstep l hl k j hj _ rfl).2 g)
    (by
      intro k _
      show impl_WritesOk.l0 (k + 1) l l l.length l.length = _
      rw [impl_WritesOk.l0, if_neg (by omega)]
      congr 1
      rw [decide_eq_decide]
      omega)
  have e : c = b := by
    rw [Bool.eq_iff_iff, hb', hc', decide_eq_true_iff]
    exact ⟨fun h => ⟨h.1, rfl⟩, fun h => ⟨h.1, rising_len l h.1⟩⟩
  refine ⟨b, fun k hk => ⟨?_, hb k (by omega)⟩⟩
  rw [← e]
  exact hc k (by omega)
def mkW (x : S122) : S124 := ⟨x.f0, x.f1.map mkV, x.f2⟩
theorem toWriteS_eq (l : List S122) (hl : l.length ≤ 1048576) (hi : ∀ w ∈ l, w.f1.length ≤ 1048576) : ∀ k, l.length + 1048580 ≤ k → laws_toWriteS.f k l = some (l.map mkW) := by
  intro k hk
  unfold laws_toWriteS.f
  rw [if_pos (by omega), if_pos (by omega)]
  obtain ⟨k, rfl⟩ : ∃ m, k = m + 1048577 := ⟨k - 1048577, by omega⟩
  refine copy_all (fun k x i => laws_toWriteS.l0 (k + 1048577) l x i) (l.map mkW) (List.replicate ((l.length : Int) : Int).toNat z124) (by rw [List.length_replicate, List.length_map]; omega) (mkW z122) ?_ ?_ k (by rw [List.length_map]; omega)
  · intro k x j hj hx
    rw [List.length_map] at hj hx
    have hr := hi _ (mem_getD l z122 j hj)
    show laws_toWriteS.l0 (k + 1 + 1048577) l x j = _
    rw [show k + 1 + 1048577 = (k + 1048577) + 1 by omega, laws_toWriteS.l0, if_pos (by omega), if_pos (by omega)]
    show ((laws_toWrite.f (k + 1048577) (l.getD j z122).f0 (l.getD j z122).f1 (l.getD j z122).f2).bind _) = _
    unfold laws_toWrite.f
    rw [toValueS_eq _ (by omega) _ (by omega), Option.bind_some, Option.bind_some, if_pos (by omega), show wrap64 ((j : Int) + 1) = ((j + 1 : Nat) : Int) by rw [w64g (by omega)]; omega, Int.toNat_natCast, getD_map mkW l z122 (mkW z122) j hj]
    rfl
  · intro k x hx
    rw [List.length_map] at hx
    show laws_toWriteS.l0 (k + 1 + 1048577) l x (l.map _).length = _
    rw [show k + 1 + 1048577 = (k + 1048577) + 1 by omega, laws_toWriteS.l0, List.length_map, if_neg (by omega)]
theorem szW_loop (l : List S122) (hl : l.length ≤ 1048576) (hm : ∀ w ∈ l, w.f1.length ≤ maxLen ∧ ∀ x ∈ w.f1, x.f2.size ≤ maxLen) : ∀ (d i : Nat) (left : Int), i + d = l.length → 0 ≤ left → left ≤ 1048576 →
    ∃ z, (∀ k, d + 1 + 1048578 ≤ k → laws_szWriteS.l0 k l left (i : Int) = some z) ∧ z ≤ 1048576 ∧ (0 ≤ z → ∀ j, i ≤ j → j < l.length → SmallR (l.getD j z122).f1) := by
  intro d
  induction d with
  | zero =>
    intro i left hi h0 h1
    refine ⟨left, fun k hk => ?_, h1, fun _ j h h' => by omega⟩
    obtain ⟨k, rfl⟩ : ∃ m, k = m + 1 := ⟨k - 1, by omega⟩
    rw [laws_szWriteS.l0, if_neg (by omega)]
  | succ d ih =>
    intro i left hi h0 h1
    have hs := hm _ (mem_getD l z122 i (by omega))
    obtain ⟨y, hy, hy1, hy2⟩ := szS_ok (l.getD i z122).f1 hs.1 hs.2 left h0 h1
    have hu : ∀ k, 1048578 ≤ k → laws_szWriteS.l0 (k + 1) l left (i : Int) = if y < 0 then some (-1) else laws_szWriteS.l0 k l y ((i + 1 : Nat) : Int) := by
      intro k hk
      rw [laws_szWriteS.l0, if_pos (by omega), if_pos (by omega)]
      show ((laws_szWrite.f k (l.getD i z122).f0 (l.getD i z122).f1 (l.getD i z122).f2 left).bind _) = _
      unfold laws_szWrite.f
      rw [hy k hk, Option.bind_some, show wrap64 ((i : Int) + 1) = ((i + 1 : Nat) : Int) by rw [w64g (by omega)]; omega]
      by_cases h : y < 0
      · rw [if_pos h, if_pos h, Option.bind_some, if_pos (by decide)]
      · rw [if_neg h, if_neg h, Option.bind_some, if_neg h]
    by_cases h : y < 0
    · refine ⟨-1, fun k hk => ?_, by omega, fun h => by omega⟩
      obtain ⟨k, rfl⟩ : ∃ m, k = m + 1 := ⟨k - 1, by omega⟩
      rw [hu k (by omega), if_pos h]
    · obtain ⟨z, hz, hz1, hz2⟩ := ih (i + 1) y (by omega) (by omega) hy1
      refine ⟨z, fun k hk => ?_, hz1, fun h' j hj hj' => ?_⟩
      · obtain ⟨k, rfl⟩ : ∃ m, k = m + 1 := ⟨k - 1, by omega⟩
        rw [hu k (by omega), if_neg h]
        exact hz k (by omega)
      · by_cases e : j = i
        · rw [e]
          exact hy2 (by omega)
        · exact hz2 h' j (by omega) hj'
theorem szW_ok (l : List S122) (hl : l.length ≤ maxLen) (hm : ∀ w ∈ l, w.f1.length ≤ maxLen ∧ ∀ x ∈ w.f1, x.f2.size ≤ maxLen) :
    ∃ z, (∀ k, 3000000 ≤ k → laws_szWriteS.f k l 1048576 = some z) ∧ z ≤ 1048576 ∧ (0 ≤ z → l.length ≤ 1048576 ∧ ∀ w ∈ l, SmallR w.f1) := by
  have h2 : l.length ≤ 9223372036854775807 := Nat.le_trans hl (by decide)
  have ew : wrap64 (1048576 - (l.length : Int)) = 1048576 - l.length := w64g (by omega)
  by_cases h : (1048576 : Int) - (l.length : Int) < 0
  · refine ⟨-1, fun k _ => ?_, by omega, fun h => by omega⟩
    unfold laws_szWriteS.f
    rw [ew, if_pos h]
  · obtain ⟨z, hz, hz1, hz2⟩ := szW_loop l (by omega) hm l.length 0 (1048576 - l.length) (by omega) (by omega) (by omega)
    refine ⟨z, fun k hk => ?_, hz1, fun h' => ⟨by omega, (all_mem l z122 (fun w => SmallR w.f1)).1 fun j hj => hz2 h' j (by omega) hj⟩⟩
    unfold laws_szWriteS.f
    rw [ew, if_neg h]
    exact hz k (by omega)
theorem eqWriteS_eq (l : List S124) (hl : l.length ≤ 1048576) (hi : ∀ w ∈ l, w.f1.length ≤ 1048576) : ∀ k, l.length + 1048580 ≤ k → laws_eqWriteS.f k l l = some true := by
  intro k hk
  unfold laws_eqWriteS.f
  rw [if_pos rfl]
  refine go_all (fun k i => laws_eqWriteS.l0 k l l i) l.length 1048577 1 true ?_ ?_ k (by omega)
  · intro k j hk hj
    have hr := hi _ (mem_getD l z124 j hj)
    show laws_eqWriteS.l0 (k + 1) l l j = _
    rw [laws_eqWriteS.l0, if_pos (by omega), if_pos (by omega), if_pos (by omega)]
    show ((laws_eqWrite.f k (l.getD j z124).f0 (l.getD j z124).f1 (l.getD j z124).f2 (l.getD j z124).f0 (l.getD j z124).f1 (l.getD j z124).f2).bind _) = _
    unfold laws_eqWrite.f
    rw [if_pos rfl, eqValueS_eq _ (by omega) _ (by omega), Option.bind_some, if_pos rfl, if_neg (by simp), Option.bind_some, if_pos rfl, show wrap64 ((j : Int) + 1) = ((j + 1 : Nat) : Int) by rw [w64g (by omega)]; omega]
  · intro k _
    show laws_eqWriteS.l0 (k + 1) l l l.length = _
    rw [laws_eqWriteS.l0, if_neg (by omega)]

end Go.Proofs.Ytokphjnpkaipcaa.Pure
set_option linter.unusedVariables false
set_option linter.unusedSimpArgs false
namespace Go.Proofs.Ytokphjnpkaipcaa.Pure
open Go.RowKit Go.Proofs.Ytokphjnpkaipcaa.X Go.Proofs.YtokphjnpkaipcaaV.PrintWords Go.Proofs.YtokphjnpkaipcaaV.PrintLast Go.Proofs.YtokphjnpkaipcaaV.PrintMore

theorem FnExactWritesOk : laws_FnExactWritesOk.Pure := by
  intro l hl
  obtain ⟨z, hz, _, hz2⟩ := szW_ok l hl.1 (fun w hw => ⟨(hl.2 w hw).2.1.1, fun x hx => ((hl.2 w hw).2.1.2 x hx).2.2⟩)
  obtain ⟨K, hK⟩ : ∃ K, 10000000 ≤ K := ⟨_, Nat.le_refl _⟩
  refine ⟨K, ?_⟩
  unfold laws_FnExactWritesOk.f
  rw [hz _ (by omega), Option.bind_some]
  by_cases h : z < 0
  · rw [if_pos h]
  obtain ⟨hl1, hl2⟩ := hz2 (by omega)
  have lm : (l.map mkW).length = l.length := List.length_map _
  have hs : SmallW (l.map mkW) := by
    refine ⟨by omega, fun w hw => ?_⟩
    obtain ⟨y, hy, rfl⟩ := List.mem_map.1 hw
    exact ⟨by show (y.f1.map mkV).length ≤ _; rw [List.length_map]; exact (hl2 y hy).1, mkV_small (hl2 y hy).2⟩
  have ta : laws_toWriteS.f K l = some (l.map mkW) := toWriteS_eq l hl1 (fun w hw => (hl2 w hw).1) _ (by omega)
  obtain ⟨r, hr⟩ := writes_both (l.map mkW) hs
  rw [if_neg h, ta, Option.bind_some, (hr _ (by omega)).2, Option.bind_some, Option.bind_some, (hr _ (by omega)).1, Option.bind_some, if_neg (by simp), Option.bind_some, eqWriteS_eq _ (by omega) (fun w hw => (hs.2 w hw).1) _ (by omega), Option.bind_some, if_pos rfl]

end Go.Proofs.Ytokphjnpkaipcaa.Pure
