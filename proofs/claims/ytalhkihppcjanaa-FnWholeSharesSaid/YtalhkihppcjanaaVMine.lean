/- Further words for this session's prints: searching a slice by a function value, loads of whole elements, clips; plain lemmas. -/
import Derived.Test.YtalhkihppcjanaaVMore
import Derived.Laws.Cells
set_option linter.unusedVariables false
set_option linter.unusedSimpArgs false
namespace Go.Proofs.YtalhkihppcjanaaV.PrintWords
open Go.RowKit

/-- The first place at which p holds; -1 if there is none. -/
def idxFrom {α : Type} (p : α → Bool) : List α → Int → Int
  | [], _ => -1
  | x :: r, i => if p x = true then i else idxFrom p r (i + 1)
theorem idx_hit {α : Type} (p : α → Bool) : ∀ (l : List α) (k : Nat) (i : Int) (h : k < l.length), p l[k] = true → (∀ j (hj : j < k), p (l[j]'(by omega)) = false) → idxFrom p l i = i + k
  | [], k, _, h, _, _ => absurd h (Nat.not_lt_zero _)
  | x :: r, 0, i, _, hk, _ => by
    rw [idxFrom, if_pos (by simpa using hk)]
    simp
  | x :: r, k + 1, i, h, hk, hb => by
    have h0 := hb 0 (by omega)
    rw [idxFrom, if_neg (by simpa using h0), idx_hit p r k (i + 1) (by simpa using h) (by simpa using hk) (fun j hj => by simpa using hb (j + 1) (by omega))]
    omega
theorem idx_miss {α : Type} (p : α → Bool) : ∀ (l : List α) (i : Int), (∀ j (hj : j < l.length), p l[j] = false) → idxFrom p l i = -1
  | [], _, _ => rfl
  | x :: r, i, hb => by
    have h0 := hb 0 (by simp)
    rw [idxFrom, if_neg (by simpa using h0)]
    exact idx_miss p r (i + 1) (fun j hj => hb (j + 1) (Nat.succ_lt_succ hj))
theorem idx_any {α : Type} (p : α → Bool) : ∀ (l : List α) (i : Int), 0 ≤ i → decide (idxFrom p l i ≥ 0) = l.any p
  | [], _, _ => rfl
  | x :: r, i, hi => by
    rw [idxFrom, List.any_cons]
    by_cases h : p x = true
    · rw [if_pos h, h, Bool.true_or]
      exact decide_eq_true hi
    · rw [if_neg h, Bool.not_eq_true] at *
      rw [h, Bool.false_or]
      exact idx_any p r (i + 1) (by omega)
theorem load_run (P : Program) (W : World) (a : Addr) (cs : List Value) (k : Nat) (hk : cs.length = k) (h : ∀ j v, cs[j]? = some v → W.cell? (a.add j) = some v) :
    Sem.run P (loadCellsFrom a 0 k #[]) W = .ok cs.toArray W := by
  have := run_loadCells_list (P := P) (w := W) a cs h
  rw [hk] at this
  simpa [loadCells] using this

/-- A function with a body is entered by a call. -/
theorem enters_own {P : Program} {f : FuncId} {fn : Func} {c : Code} (hf : P.funcs[f]? = some fn) (hname : (fn.name == "runtime.NumGoroutine") = false) (hb : fn.body = some c) :
    ∀ (args : Array Value) (w : World), (callFunc f args).run P w = .ok (.enter f args) w := by
  intro args w
  have h1 : fn.name ≠ "runtime.NumGoroutine" := by simpa using hname
  simp [callFunc, hf, h1, hb, mark]
theorem any_not {α : Type} (p : α → Bool) (l : List α) : (!(l.any fun c => !(p c))) = l.all p := by
  rw [List.not_any_eq_all_not]
  simp
/-- A slice of one's own, clipped. -/
theorem Kd.R_clip {α : Type} {d : Kd α} {e : Nat} {w : World} {base : Nat} {ok : Nat → Prop} {A : Option Addr} {n c : Nat} {xs : List α} (h : d.R e w base ok (.slice A n c) xs) : d.R e w base ok (.slice A n n) xs := by
  obtain ⟨h0, inner, ho, hr⟩ := h
  have hb : (Value.slice A n n).ownBlock = (Value.slice A n c).ownBlock := by cases A <;> rfl
  refine ⟨fun k hk => h0 k (by rw [← hb]; exact hk), inner, ⟨ho.1, ?_⟩, hr.imp_ (fun _ _ hp => d.M_mono (fun k hk => ⟨hk.1, by rw [hb]; exact hk.2⟩) hp)⟩
  rcases ho.2 with ⟨hv, hn⟩ | ⟨g, cap, cur, hv, hbg, hg, hnc, hcm, hcs, ht⟩
  · left
    injection hv with h1 h2 h3
    exact ⟨by rw [h1, h2], hn⟩
  · right
    injection hv with h1 h2 h3
    refine ⟨g, n, cur, by rw [h1, ← h2], hbg, hg, by omega, by omega, ?_, ht⟩
    exact Nat.le_trans (Nat.mul_le_mul_right _ (by omega)) hcs
end Go.Proofs.YtalhkihppcjanaaV.PrintWords
